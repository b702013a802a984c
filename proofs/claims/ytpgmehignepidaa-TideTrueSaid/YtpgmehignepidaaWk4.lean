/- Walks, part Wk4. -/
import Derived.Test.YtpgmehignepidaaWk3
import Derived.Test.YtpgmehignepidaaP5
import Derived.Test.YtpgmehignepidaaLib10
set_option linter.all false
namespace Go.Proofs.Ytpgmehignepidaa
open Go Bx
/-- barrage/tide.CheckGauge closure 1 -/
theorem c_CheckGauge1 {b : Nat} {T : TypeId} {g : Gauge} {dv rv : Value} {w0 : World} (hb : w0.heap[b]? = some (.cells [.string g.name, .int .i64 g.err, .int .i64 g.rate, dv, rv].toArray T (0, 0))) (hs : g.name.size ≤ 9223372036854775807) : CV Try.prog 65 #[.pointer (some ⟨b, 0, none⟩)] w0 (.bool (!isName g.name)) := by
  refine enter Try.func65 rfl Try.ntmps65 rfl ?_
  have hS := St.start w0
  refine seq ?_
  refine region ?_
  refine sv (yAsg rfl) ?_
  refine nil ?_
  show Code.wp _ _ _ _ _
  refine seq ?_
  refine region ?_
  refine sv (fa34_0 rfl) ?_
  refine sv (yLdB rfl Try.isAgg9 (hS.ext.get hb) rfl) ?_
  refine scall Try.call21 (.cons rfl .nil) (c_Name hs) ?_
  rintro _ w ⟨rfl, hE⟩; replace hS := hS.step hE; clear hE
  refine sv (yNot rfl) ?_
  refine sv (yAsg rfl) ?_
  refine nil ?_
  show Code.wp _ _ _ _ _
  refine wp_ret ?_
  exact retV (res1 rfl rfl) hS.ext
/-- barrage/tide.CheckGauge closure 2 -/
theorem c_CheckGauge2 {b : Nat} {T : TypeId} {g : Gauge} {dv rv : Value} {w0 : World} (hb : w0.heap[b]? = some (.cells [.string g.name, .int .i64 g.err, .int .i64 g.rate, dv, rv].toArray T (0, 0))) : CV Try.prog 66 #[.pointer (some ⟨b, 0, none⟩)] w0 (.bool (outB g.err 0 5000 || outB g.rate 0 5000)) := by
  refine enter Try.func66 rfl Try.ntmps66 rfl ?_
  have hS := St.start w0
  refine seq ?_
  refine region ?_
  refine sv (yAsg rfl) ?_
  refine nil ?_
  show Code.wp _ _ _ _ _
  refine seq ?_
  refine region ?_
  refine sv (fa34_1 rfl) ?_
  refine sv (yLdB rfl Try.isAgg3 (hS.ext.get hb) rfl) ?_
  refine scall Try.call54 (.cons rfl (.cons rfl (.cons rfl .nil))) c_out ?_
  rintro _ w ⟨rfl, hE⟩; replace hS := hS.step hE; clear hE
  refine sv (yMove rfl) ?_
  refine sg rfl rfl rfl (fun g => (fa34_2 rfl)) (fun v6 g6 => ?_)
  refine sg rfl rfl rfl (fun g => (yLdB (g6.1 g) Try.isAgg3 (hS.ext.get hb) rfl)) (fun v7 g7 => ?_)
  refine sgc hS rfl rfl rfl Try.call54 (fun g => (.cons (g7.1 g) (.cons rfl (.cons rfl .nil)))) (fun g => c_out) ?_; clear hS; intro v8 w hS g8
  refine sv (yOr rfl rfl (fun hB => (g8.1 hB))) ?_
  refine sv (yAsg rfl) ?_
  refine nil ?_
  show Code.wp _ _ _ _ _
  refine wp_ret ?_
  exact retV (res1 rfl rfl) hS.ext
set_option maxHeartbeats 1000000 in
/-- barrage/tide.CheckGauge -/
theorem c_CheckGauge {g : Gauge} {cs : List Value} {w0 : World} (hg : RGauge w0 cs g) : CV Try.prog 24 #[.agg cs.toArray] w0 (.tuple #[.int .i64 (checkG g).1, .int .i64 (checkG g).2.1, .int .i64 (checkG g).2.2]) := by
  obtain ⟨dv, rv, rfl, hnm, hge, hgr, hsd, hsr⟩ := id hg
  obtain ⟨a, cap, rfl, hcap, hmx, hel⟩ := id hsd
  obtain ⟨a2, cap2, rfl, hcap2, hmx2, hel2⟩ := id hsr
  refine enter Try.func24 rfl Try.ntmps24 rfl ?_
  have hS := St.start w0
  refine seq ?_
  refine region ?_
  refine sbox hS rfl rfl ?_; clear hS; intro b1 w hS
  refine sv (yAsg rfl) ?_
  refine sv (yAsg rfl) ?_
  refine sv (yAsg rfl) ?_
  refine nil ?_
  show Code.wp _ _ _ _ _
  refine seq ?_
  refine region ?_
  refine sv (yFn (.cons rfl .nil)) ?_
  refine sv (yBuild Try.zeroValue96 rfl pl96 (.cons rfl rfl (.cons rfl rfl .nil)) rfl) ?_
  refine sv (yFn (.cons rfl .nil)) ?_
  refine sv (yBuild Try.zeroValue96 rfl pl96 (.cons rfl rfl (.cons rfl rfl .nil)) rfl) ?_
  refine sbslice hS Try.underlying133 Try.sizeOf96 rfl Try.zeroValue96 rfl (.cons rfl rfl (.cons rfl rfl .nil)) rfl ?_; clear hS; intro b15 w hS
  refine scall Try.call52 (.cons rfl .nil) (c_first (rs := [⟨65, [.pointer (some ⟨b1, 0, none⟩)], 6, !isName g.name⟩, ⟨66, [.pointer (some ⟨b1, 0, none⟩)], 7, outB g.err 0 5000 || outB g.rate 0 5000⟩]) (hS.at _) ⟨Try.call65, fun w e => c_CheckGauge1 (e.get (hS.at b1)) hnm, fun _ => ⟨Try.call66, fun w e => c_CheckGauge2 (e.get (hS.at b1)), fun _ => trivial⟩⟩ (Nat.le_of_ble_eq_true rfl) (gErr_eq g _ _ _ _)) ?_
  rintro _ w ⟨rfl, hE⟩; replace hS := hS.step hE; clear hE
  refine sv (yAsg rfl) ?_
  refine nil ?_
  show Code.wp _ _ _ _ _
  refine seq ?_
  refine block ?_
  refine seq ?_
  refine region ?_
  refine sv (yMove rfl) ?_
  refine sv (yNeq rfl rfl) ?_
  refine sv (yAsg rfl) ?_
  refine nil ?_
  show Code.wp _ _ _ _ _
  refine cond rfl (fun c17 => ?_) (fun c17 => ?_)
  ·
    simp only [Bool.and_eq_true, Bool.or_eq_true, Bool.and_eq_false_iff, Bool.or_eq_false_iff, decide_eq_true_eq, decide_eq_false_iff_not, Bool.not_eq_true, Bool.not_eq_false, Bool.not_not, Bool.not_eq_eq_eq_not, Bool.not_true, Bool.not_false, Bool.false_eq_true, Bool.true_eq_false, ne_eq, Decidable.not_not, not_false_eq_true, not_true_eq_false] at c17
    refine seq ?_
    refine region ?_
    refine sv (yMove rfl) ?_
    refine sv (yAsg rfl) ?_
    refine sv (yAsg rfl) ?_
    refine sv (yAsg rfl) ?_
    refine nil ?_
    show Code.wp _ _ _ _ _
    have hfin : checkG g = (1, 0, gErr g) := by unfold checkG; rw [if_pos c17]
    refine wp_ret (blockR (thenR ?_))
    exact retV (res3 rfl (fstI hfin) (thd1I hfin) (thd2I hfin)) hS.ext
  ·
    simp only [Bool.and_eq_true, Bool.or_eq_true, Bool.and_eq_false_iff, Bool.or_eq_false_iff, decide_eq_true_eq, decide_eq_false_iff_not, Bool.not_eq_true, Bool.not_eq_false, Bool.not_not, Bool.not_eq_eq_eq_not, Bool.not_true, Bool.not_false, Bool.false_eq_true, Bool.true_eq_false, ne_eq, Decidable.not_not, not_false_eq_true, not_true_eq_false] at c17
    refine seq ?_
    refine region ?_
    refine sv (fa34_3 rfl) ?_
    refine sv (yLdB rfl Try.isAgg31 (hS.at _) rfl) ?_
    refine sv (yLen rfl Try.underlying31) ?_
    refine scall Try.call54 (.cons rfl (.cons rfl (.cons rfl .nil))) c_out ?_
    rintro _ w ⟨rfl, hE⟩; replace hS := hS.step hE; clear hE
    refine sv (yAsg rfl) ?_
    refine nil ?_
    show Code.wp _ _ _ _ _
    refine cond rfl (fun c21 => ?_) (fun c21 => ?_)
    ·
      refine seq ?_
      refine region ?_
      refine sv (yAsg rfl) ?_
      refine sv (yAsg rfl) ?_
      refine sv (yAsg rfl) ?_
      refine nil ?_
      show Code.wp _ _ _ _ _
      have hfin : checkG g = (2, 0, 3) := by unfold checkG; rw [if_neg (fun h => h c17), if_pos c21]
      refine wp_ret (blockR (thenR ?_))
      exact retV (res3 rfl (fstI hfin) (thd1I hfin) (thd2I hfin)) hS.ext
    ·
      refine skip ?_
      show Code.wp _ _ _ _ _
      refine seq ?_
      refine region ?_
      refine sv (yAsg rfl) ?_
      refine nil ?_
      show Code.wp _ _ _ _ _
      refine seq ?_
      refine seq ?_
      refine region ?_
      refine sv (fa34_3 rfl) ?_
      refine sv (yLdB rfl Try.isAgg31 (hS.at _) rfl) ?_
      refine sv (yLen rfl Try.underlying31) ?_
      refine sv (yMove rfl) ?_
      refine nil ?_
      show Code.wp _ _ _ _ _
      refine block ?_
      refine loop (fun f w m => ∃ (k : Nat) (bef : Int), f 1 = .pointer (some ⟨b1, 0, none⟩) ∧ f 5 = .int .i64 bef ∧ f 27 = .slice a g.datums.length cap ∧ f 28 = .int .i64 (g.datums.length : Int) ∧ f 29 = .int .i64 (k : Int) ∧ St w0 w [blk b1 [.string g.name, .int .i64 g.err, .int .i64 g.rate, .slice a g.datums.length cap, .slice a2 g.readings.length cap2] 34] ∧ (k ≤ g.datums.length) ∧ (Bd bef (-1) 200000) ∧ (checkG g = checkD (checkRs g) (g.datums.drop k) bef k) ∧ m = g.datums.length - k) _ ⟨_, rfl, 0, -1, rfl, rfl, rfl, rfl, rfl, (hS.sub (.cons _ (.cons_cons _ (List.nil_sublist _)))), (Nat.zero_le _), (by omega), (by unfold checkG; rw [if_neg (fun h => h c17), if_neg (by rw [c21]; decide)]; rfl), rfl⟩ ?_
      clear hS
      rintro f w _ ⟨k, bef, h1, h5, h27, h28, h29, hS, hk, hb, hI, rfl⟩
      refine seq ?_
      refine region ?_
      refine sv (yLss h29 h28) ?_
      refine nil ?_
      show Code.wp _ _ _ _ _
      refine seq ?_
      refine cond rfl (fun c30 => ?_) (fun c30 => ?_)
      ·
        simp only [Bool.and_eq_true, Bool.or_eq_true, Bool.and_eq_false_iff, Bool.or_eq_false_iff, decide_eq_true_eq, decide_eq_false_iff_not, Bool.not_eq_true, Bool.not_eq_false, Bool.not_not, Bool.not_eq_eq_eq_not, Bool.not_true, Bool.not_false, Bool.false_eq_true, Bool.true_eq_false, ne_eq, Decidable.not_not, not_false_eq_true, not_true_eq_false] at c30
        refine skip ?_
        show Code.wp _ _ _ _ _
        refine seq ?_
        refine block ?_
        refine seq ?_
        refine region ?_
        obtain ⟨d, hx, hd⟩ := drop_of (l := g.datums) (k := k) (by omega)
        obtain ⟨b, o, cs, ha, hlen, hcs, hR⟩ := hel (k) (by omega)
        obtain rfl : d = g.datums[k] := (List.getElem?_eq_some_iff.1 hx).2.symm
        generalize g.datums[k] = d at hx hd hR
        obtain ⟨rfl, hd1, hd2, hd3⟩ := hR
        refine sv (yMove h29) ?_
        refine sv (yIxa h27 ha h29 Try.runUnderlying31 Try.sizeOf78 (by omega) (by omega)) ?_
        refine sv (yLdA rfl Try.isAgg78 Try.sizeOf78 (hcs.ext hS.ext) rfl) ?_
        refine salloc hS Try.zeroValue78 rfl ?_; clear hS; intro b7 w hS
        refine sv (yAsg rfl) ?_
        refine sst hS rfl rfl Try.sizeOf78 rfl rfl rfl rfl ?_; clear hS; intro w hS
        refine nil ?_
        show Code.wp _ _ _ _ _
        refine seq ?_
        refine region ?_
        refine sv (fa78_1 rfl) ?_
        refine sv (yLdBA rfl Try.isAgg38 Try.sizeOf38 (hS.at _) rfl rfl) ?_
        refine salloc hS Try.zeroValue38 rfl ?_; clear hS; intro b8 w hS
        refine sst hS rfl rfl Try.sizeOf38 rfl rfl rfl rfl ?_; clear hS; intro w hS
        refine nil ?_
        show Code.wp _ _ _ _ _
        refine seq ?_
        refine seq ?_
        refine region ?_
        refine sv (fa78_0 rfl) ?_
        refine sv (yLdB rfl Try.isAgg3 (hS.at _) rfl) ?_
        refine sv (yMove h5) ?_
        refine sv (yAdd rfl rfl ⟨by omega, by omega⟩) ?_
        refine scall Try.call54 (.cons rfl (.cons rfl (.cons rfl .nil))) c_out ?_
        rintro _ w ⟨rfl, hE⟩; replace hS := hS.step hE; clear hE
        refine sv (yMove rfl) ?_
        refine sg rfl rfl rfl (fun g => (yMove rfl)) (fun v42 g42 => ?_)
        refine sg rfl rfl rfl (fun g => (yEql (g42.1 g) rfl)) (fun v43 g43 => ?_)
        refine sg rfl rfl rfl (fun g => (yMove (g43.1 g))) (fun v44 g44 => ?_)
        refine sgg rfl rfl g44 (fun g => (fa78_0 rfl)) (fun v45 g45 => ?_)
        refine sgg rfl rfl g44 (fun g => (yLdB (g45.1 g) Try.isAgg3 (hS.at _) rfl)) (fun v46 g46 => ?_)
        refine sgg rfl rfl g44 (fun g => (yGtr (g46.1 g) rfl)) (fun v47 g47 => ?_)
        refine sg rfl rfl rfl (fun g => (yAnd (g44.1 g) (fun hB => (g47.1 ⟨g, hB⟩)) rfl)) (fun v48 g48 => ?_)
        refine sv (yOr rfl rfl (fun hB => (g48.1 hB))) ?_
        refine sv (yMove rfl) ?_
        refine sg rfl rfl rfl (fun g => (fa38_1 rfl)) (fun v51 g51 => ?_)
        refine sg rfl rfl rfl (fun g => (yLdB (g51.1 g) Try.isAgg3 (hS.at _) rfl)) (fun v52 g52 => ?_)
        refine sgc hS rfl rfl rfl Try.call54 (fun g => (.cons (g52.1 g) (.cons rfl (.cons rfl .nil)))) (fun g => c_out) ?_; clear hS; intro v53 w hS g53
        refine sv (yOr rfl rfl (fun hB => (g53.1 hB))) ?_
        refine sv (yMove rfl) ?_
        refine sg rfl rfl rfl (fun g => (fa38_0 rfl)) (fun v56 g56 => ?_)
        refine sg rfl rfl rfl (fun g => (yLdB (g56.1 g) Try.isAgg3 (hS.at _) rfl)) (fun v57 g57 => ?_)
        refine sg rfl rfl rfl (fun g => (fa38_1 rfl)) (fun v58 g58 => ?_)
        refine sg rfl rfl rfl (fun g => (yLdB (g58.1 g) Try.isAgg3 (hS.at _) rfl)) (fun v59 g59 => ?_)
        refine sgc hS rfl rfl rfl Try.call54 (fun g => (.cons (g57.1 g) (.cons rfl (.cons (g59.1 g) .nil)))) (fun g => c_out) ?_; clear hS; intro v60 w hS g60
        refine sv (yOr rfl rfl (fun hB => (g60.1 hB))) ?_
        refine nil ?_
        show Code.wp _ _ _ _ _
        refine cond rfl (fun c61 => ?_) (fun c61 => ?_)
        ·
          refine seq ?_
          refine region ?_
          refine sv (yMove rfl) ?_
          refine sv (yAsg rfl) ?_
          refine sv (yAsg rfl) ?_
          refine sv (yAsg rfl) ?_
          refine nil ?_
          show Code.wp _ _ _ _ _
          have hfin : checkG g = (2, (k : Int), 7) := by rw [hI, hd, checkD, if_pos (show datBad bef k d = true from c61)]
          refine wp_ret (thenR (blockR (thenR (thenR (blockR (thenR ?_))))))
          exact retV (res3 rfl (fstI hfin) (thd1I hfin) (thd2I hfin)) hS.ext
        ·
          refine skip ?_
          show Code.wp _ _ _ _ _
          refine region ?_
          refine sv (fa78_0 rfl) ?_
          refine sv (yLdB rfl Try.isAgg3 (hS.at _) rfl) ?_
          refine sv (yAsg rfl) ?_
          refine nil ?_
          show Code.wp _ _ _ _ _
          refine region ?_
          refine sv (yAdd h29 rfl ⟨by omega, by omega⟩) ?_
          refine sv (yMove rfl) ?_
          refine nil ?_
          exact ⟨_, _, rfl, ⟨k + 1, d.start, h1, rfl, h27, h28, rfl, (hS.sub (.cons _ (.cons _ (List.Sublist.refl _)))), (by omega), (by have := datBad_iff.1 c61; omega), (by rw [hI, hd, checkD, if_neg (by rw [show datBad bef k d = false from c61]; decide)]), rfl⟩, by omega⟩
      ·
        simp only [Bool.and_eq_true, Bool.or_eq_true, Bool.and_eq_false_iff, Bool.or_eq_false_iff, decide_eq_true_eq, decide_eq_false_iff_not, Bool.not_eq_true, Bool.not_eq_false, Bool.not_not, Bool.not_eq_eq_eq_not, Bool.not_true, Bool.not_false, Bool.false_eq_true, Bool.true_eq_false, ne_eq, Decidable.not_not, not_false_eq_true, not_true_eq_false] at c30
        refine exit ?_
        show Code.wp _ _ _ _ _
        refine seq ?_
        refine seq ?_
        refine region ?_
        refine sv (fa34_4 h1) ?_
        refine sv (yLdB rfl Try.isAgg32 (hS.at _) rfl) ?_
        refine sv (yLen rfl Try.underlying32) ?_
        refine sv (yGtr rfl rfl) ?_
        refine nil ?_
        show Code.wp _ _ _ _ _
        refine cond rfl (fun c69 => ?_) (fun c69 => ?_)
        ·
          simp only [Bool.and_eq_true, Bool.or_eq_true, Bool.and_eq_false_iff, Bool.or_eq_false_iff, decide_eq_true_eq, decide_eq_false_iff_not, Bool.not_eq_true, Bool.not_eq_false, Bool.not_not, Bool.not_eq_eq_eq_not, Bool.not_true, Bool.not_false, Bool.false_eq_true, Bool.true_eq_false, ne_eq, Decidable.not_not, not_false_eq_true, not_true_eq_false] at c69
          obtain rfl : k = g.datums.length := by omega
          rw [List.drop_length, checkD] at hI
          unfold checkRs at hI
          refine seq ?_
          refine region ?_
          refine sv (yAsg rfl) ?_
          refine sv (yAsg rfl) ?_
          refine sv (yAsg rfl) ?_
          refine nil ?_
          show Code.wp _ _ _ _ _
          have hfin : checkG g = (3, 0, 3) := by rw [hI, if_pos c69]
          refine wp_ret (thenR ?_)
          exact retV (res3 rfl (fstI hfin) (thd1I hfin) (thd2I hfin)) hS.ext
        ·
          simp only [Bool.and_eq_true, Bool.or_eq_true, Bool.and_eq_false_iff, Bool.or_eq_false_iff, decide_eq_true_eq, decide_eq_false_iff_not, Bool.not_eq_true, Bool.not_eq_false, Bool.not_not, Bool.not_eq_eq_eq_not, Bool.not_true, Bool.not_false, Bool.false_eq_true, Bool.true_eq_false, ne_eq, Decidable.not_not, not_false_eq_true, not_true_eq_false] at c69
          obtain rfl : k = g.datums.length := by omega
          rw [List.drop_length, checkD] at hI
          unfold checkRs at hI
          refine skip ?_
          show Code.wp _ _ _ _ _
          refine seq ?_
          refine region ?_
          refine sv (yAsg rfl) ?_
          refine nil ?_
          show Code.wp _ _ _ _ _
          refine seq ?_
          refine seq ?_
          refine region ?_
          refine sv (fa34_4 h1) ?_
          refine sv (yLdB rfl Try.isAgg32 (hS.at _) rfl) ?_
          refine sv (yLen rfl Try.underlying32) ?_
          refine sv (yMove rfl) ?_
          refine nil ?_
          show Code.wp _ _ _ _ _
          refine block ?_
          refine loop (fun f w m => ∃ (k : Nat) (bef : Int), f 5 = .int .i64 bef ∧ f 71 = .slice a2 g.readings.length cap2 ∧ f 72 = .int .i64 (g.readings.length : Int) ∧ f 73 = .int .i64 (k : Int) ∧ St w0 w [] ∧ (k ≤ g.readings.length) ∧ (Bd bef (-1) 200000) ∧ (checkG g = checkR (g.readings.drop k) bef k) ∧ m = g.readings.length - k) _ ⟨_, rfl, 0, -1, rfl, rfl, rfl, rfl, (hS.sub (List.nil_sublist _)), (Nat.zero_le _), (by omega), (by rw [hI, if_neg (by omega)]; rfl), rfl⟩ ?_
          clear hS
          rintro f w _ ⟨k, bef, h5, h71, h72, h73, hS, hk, hb, hI, rfl⟩
          refine seq ?_
          refine region ?_
          refine sv (yLss h73 h72) ?_
          refine nil ?_
          show Code.wp _ _ _ _ _
          refine seq ?_
          refine cond rfl (fun c74 => ?_) (fun c74 => ?_)
          ·
            simp only [Bool.and_eq_true, Bool.or_eq_true, Bool.and_eq_false_iff, Bool.or_eq_false_iff, decide_eq_true_eq, decide_eq_false_iff_not, Bool.not_eq_true, Bool.not_eq_false, Bool.not_not, Bool.not_eq_eq_eq_not, Bool.not_true, Bool.not_false, Bool.false_eq_true, Bool.true_eq_false, ne_eq, Decidable.not_not, not_false_eq_true, not_true_eq_false] at c74
            refine skip ?_
            show Code.wp _ _ _ _ _
            refine seq ?_
            refine block ?_
            refine seq ?_
            refine region ?_
            obtain ⟨r, hx, hd⟩ := drop_of (l := g.readings) (k := k) (by omega)
            obtain ⟨b, o, cs, ha, hlen, hcs, hR⟩ := hel2 (k) (by omega)
            obtain rfl : r = g.readings[k] := (List.getElem?_eq_some_iff.1 hx).2.symm
            generalize g.readings[k] = r at hx hd hR
            obtain ⟨rfl, hr1, hr2⟩ := hR
            refine sv (yMove h73) ?_
            refine sv (yIxa h71 ha h73 Try.runUnderlying32 Try.sizeOf103 (by omega) (by omega)) ?_
            refine sv (yLdA rfl Try.isAgg103 Try.sizeOf103 (hcs.ext hS.ext) rfl) ?_
            refine salloc hS Try.zeroValue103 rfl ?_; clear hS; intro b10 w hS
            refine sv (yAsg rfl) ?_
            refine sst hS rfl rfl Try.sizeOf103 rfl rfl rfl rfl ?_; clear hS; intro w hS
            refine nil ?_
            show Code.wp _ _ _ _ _
            refine seq ?_
            refine seq ?_
            refine region ?_
            refine sv (fa103_0 rfl) ?_
            refine sv (yLdB rfl Try.isAgg3 (hS.at _) rfl) ?_
            refine sv (yMove h5) ?_
            refine sv (yAdd rfl rfl ⟨by omega, by omega⟩) ?_
            refine scall Try.call54 (.cons rfl (.cons rfl (.cons rfl .nil))) c_out ?_
            rintro _ w ⟨rfl, hE⟩; replace hS := hS.step hE; clear hE
            refine sv (yMove rfl) ?_
            refine sg rfl rfl rfl (fun g => (fa103_1 rfl)) (fun v84 g84 => ?_)
            refine sg rfl rfl rfl (fun g => (yLdB (g84.1 g) Try.isAgg3 (hS.at _) rfl)) (fun v85 g85 => ?_)
            refine sgc hS rfl rfl rfl Try.call54 (fun g => (.cons (g85.1 g) (.cons rfl (.cons rfl .nil)))) (fun g => c_out) ?_; clear hS; intro v86 w hS g86
            refine sv (yOr rfl rfl (fun hB => (g86.1 hB))) ?_
            refine nil ?_
            show Code.wp _ _ _ _ _
            refine cond rfl (fun c87 => ?_) (fun c87 => ?_)
            ·
              refine seq ?_
              refine region ?_
              refine sv (yMove rfl) ?_
              refine sv (yAsg rfl) ?_
              refine sv (yAsg rfl) ?_
              refine sv (yAsg rfl) ?_
              refine nil ?_
              show Code.wp _ _ _ _ _
              have hfin : checkG g = (3, (k : Int), 7) := by rw [hI, hd, checkR, if_pos (show readBad bef r = true from c87)]
              refine wp_ret (thenR (blockR (thenR (thenR (blockR (thenR ?_))))))
              exact retV (res3 rfl (fstI hfin) (thd1I hfin) (thd2I hfin)) hS.ext
            ·
              refine skip ?_
              show Code.wp _ _ _ _ _
              refine region ?_
              refine sv (fa103_0 rfl) ?_
              refine sv (yLdB rfl Try.isAgg3 (hS.at _) rfl) ?_
              refine sv (yAsg rfl) ?_
              refine nil ?_
              show Code.wp _ _ _ _ _
              refine region ?_
              refine sv (yAdd h73 rfl ⟨by omega, by omega⟩) ?_
              refine sv (yMove rfl) ?_
              refine nil ?_
              exact ⟨_, _, rfl, ⟨k + 1, r.tick, rfl, h71, h72, rfl, (hS.sub (List.nil_sublist _)), (by omega), (by have := readBad_iff.1 c87; omega), (by rw [hI, hd, checkR, if_neg (by rw [show readBad bef r = false from c87]; decide)]), rfl⟩, by omega⟩
          ·
            simp only [Bool.and_eq_true, Bool.or_eq_true, Bool.and_eq_false_iff, Bool.or_eq_false_iff, decide_eq_true_eq, decide_eq_false_iff_not, Bool.not_eq_true, Bool.not_eq_false, Bool.not_not, Bool.not_eq_eq_eq_not, Bool.not_true, Bool.not_false, Bool.false_eq_true, Bool.true_eq_false, ne_eq, Decidable.not_not, not_false_eq_true, not_true_eq_false] at c74
            refine exit ?_
            show Code.wp _ _ _ _ _
            refine seq ?_
            refine region ?_
            refine sv (yAsg rfl) ?_
            refine sv (yAsg rfl) ?_
            refine sv (yAsg rfl) ?_
            refine nil ?_
            show Code.wp _ _ _ _ _
            obtain rfl : k = g.readings.length := by omega
            have hfin : checkG g = (0, 0, 0) := by rw [hI, List.drop_length]; rfl
            refine wp_ret ?_
            exact retV (res3 rfl (fstI hfin) (thd1I hfin) (thd2I hfin)) hS.ext
/-- cmp.isNaN int  -/
theorem c_isNaN {a : Int} {w0 : World} : CV Try.prog 113 #[.int .i64 a] w0 (.bool false) := by
  refine enter Try.func113 rfl Try.ntmps113 rfl ?_
  have hS := St.start w0
  refine seq ?_
  refine region ?_
  refine sv (yAsg rfl) ?_
  refine nil ?_
  show Code.wp _ _ _ _ _
  refine seq ?_
  refine region ?_
  refine sv (yMove rfl) ?_
  refine sv (yMove rfl) ?_
  refine sv (yNeq rfl rfl) ?_
  refine sv (yAsg rfl) ?_
  refine nil ?_
  show Code.wp _ _ _ _ _
  refine wp_ret ?_
  exact retV (res1 rfl (eqB (by simp))) hS.ext
/-- cmp.Compare int  -/
theorem c_Compare {a b : Int} {w0 : World} : CV Try.prog 95 #[.int .i64 a, .int .i64 b] w0 (.int .i64 (cmpI a b)) := by
  refine enter Try.func95 rfl Try.ntmps95 rfl ?_
  have hS := St.start w0
  refine seq ?_
  refine region ?_
  refine sv (yAsg rfl) ?_
  refine nil ?_
  show Code.wp _ _ _ _ _
  refine seq ?_
  refine region ?_
  refine sv (yMove rfl) ?_
  refine scall Try.call113 (.cons rfl .nil) c_isNaN ?_
  rintro _ w ⟨rfl, hE⟩; replace hS := hS.step hE; clear hE
  refine sv (yAsg rfl) ?_
  refine nil ?_
  show Code.wp _ _ _ _ _
  refine seq ?_
  refine region ?_
  refine sv (yMove rfl) ?_
  refine scall Try.call113 (.cons rfl .nil) c_isNaN ?_
  rintro _ w ⟨rfl, hE⟩; replace hS := hS.step hE; clear hE
  refine sv (yAsg rfl) ?_
  refine nil ?_
  show Code.wp _ _ _ _ _
  refine seq ?_
  refine seq ?_
  refine region ?_
  refine sv (yMove rfl) ?_
  refine nil ?_
  show Code.wp _ _ _ _ _
  refine cond rfl (fun c11 => ?_) (fun c11 => ?_)
  ·
    exact absurd c11 (by decide)
  ·
    refine skip ?_
    show Code.wp _ _ _ _ _
    refine seq ?_
    refine seq ?_
    refine region ?_
    refine sv (yMove rfl) ?_
    refine nil ?_
    show Code.wp _ _ _ _ _
    refine cond rfl (fun c13 => ?_) (fun c13 => ?_)
    ·
      exact absurd c13 (by decide)
    ·
      refine skip ?_
      show Code.wp _ _ _ _ _
      refine seq ?_
      refine seq ?_
      refine region ?_
      refine sv (yMove rfl) ?_
      refine sv (yMove rfl) ?_
      refine sv (yLss rfl rfl) ?_
      refine nil ?_
      show Code.wp _ _ _ _ _
      refine cond rfl (fun c16 => ?_) (fun c16 => ?_)
      ·
        simp only [Bool.and_eq_true, Bool.or_eq_true, Bool.and_eq_false_iff, Bool.or_eq_false_iff, decide_eq_true_eq, decide_eq_false_iff_not, Bool.not_eq_true, Bool.not_eq_false, Bool.not_not, Bool.not_eq_eq_eq_not, Bool.not_true, Bool.not_false, Bool.false_eq_true, Bool.true_eq_false, ne_eq, Decidable.not_not, not_false_eq_true, not_true_eq_false] at c16
        refine seq ?_
        refine region ?_
        refine sv (yAsg rfl) ?_
        refine nil ?_
        show Code.wp _ _ _ _ _
        refine wp_ret (thenR ?_)
        exact retV (res1 rfl (eqI (by unfold cmpI; rw [if_pos c16]))) hS.ext
      ·
        simp only [Bool.and_eq_true, Bool.or_eq_true, Bool.and_eq_false_iff, Bool.or_eq_false_iff, decide_eq_true_eq, decide_eq_false_iff_not, Bool.not_eq_true, Bool.not_eq_false, Bool.not_not, Bool.not_eq_eq_eq_not, Bool.not_true, Bool.not_false, Bool.false_eq_true, Bool.true_eq_false, ne_eq, Decidable.not_not, not_false_eq_true, not_true_eq_false] at c16
        refine skip ?_
        show Code.wp _ _ _ _ _
        refine seq ?_
        refine seq ?_
        refine region ?_
        refine sv (yMove rfl) ?_
        refine sv (yMove rfl) ?_
        refine sv (yGtr rfl rfl) ?_
        refine nil ?_
        show Code.wp _ _ _ _ _
        refine cond rfl (fun c19 => ?_) (fun c19 => ?_)
        ·
          simp only [Bool.and_eq_true, Bool.or_eq_true, Bool.and_eq_false_iff, Bool.or_eq_false_iff, decide_eq_true_eq, decide_eq_false_iff_not, Bool.not_eq_true, Bool.not_eq_false, Bool.not_not, Bool.not_eq_eq_eq_not, Bool.not_true, Bool.not_false, Bool.false_eq_true, Bool.true_eq_false, ne_eq, Decidable.not_not, not_false_eq_true, not_true_eq_false] at c19
          refine seq ?_
          refine region ?_
          refine sv (yAsg rfl) ?_
          refine nil ?_
          show Code.wp _ _ _ _ _
          refine wp_ret (thenR ?_)
          exact retV (res1 rfl (eqI (by unfold cmpI; rw [if_neg c16, if_pos c19]))) hS.ext
        ·
          simp only [Bool.and_eq_true, Bool.or_eq_true, Bool.and_eq_false_iff, Bool.or_eq_false_iff, decide_eq_true_eq, decide_eq_false_iff_not, Bool.not_eq_true, Bool.not_eq_false, Bool.not_not, Bool.not_eq_eq_eq_not, Bool.not_true, Bool.not_false, Bool.false_eq_true, Bool.true_eq_false, ne_eq, Decidable.not_not, not_false_eq_true, not_true_eq_false] at c19
          refine skip ?_
          show Code.wp _ _ _ _ _
          refine seq ?_
          refine region ?_
          refine sv (yAsg rfl) ?_
          refine nil ?_
          show Code.wp _ _ _ _ _
          refine wp_ret ?_
          exact retV (res1 rfl (eqI (by unfold cmpI; rw [if_neg c16, if_neg c19]))) hS.ext
/-- barrage/tide.datum closure 1 -/
theorem c_datum1 {d : Datum} {t : Int} {w0 : World} : CV Try.prog 112 #[.agg (datumC d).toArray, .int .i64 t] w0 (.int .i64 (cmpI d.start t)) := by
  refine enter Try.func112 rfl Try.ntmps112 rfl ?_
  have hS := St.start w0
  refine seq ?_
  refine region ?_
  refine sbox hS rfl rfl ?_; clear hS; intro b2 w hS
  refine sv (yAsg rfl) ?_
  refine nil ?_
  show Code.wp _ _ _ _ _
  refine seq ?_
  refine region ?_
  refine sv (fa78_0 rfl) ?_
  refine sv (yLdB rfl Try.isAgg3 (hS.at _) rfl) ?_
  refine sv (yMove rfl) ?_
  refine scall Try.call95 (.cons rfl (.cons rfl .nil)) c_Compare ?_
  rintro _ w ⟨rfl, hE⟩; replace hS := hS.step hE; clear hE
  refine sv (yAsg rfl) ?_
  refine nil ?_
  show Code.wp _ _ _ _ _
  refine wp_ret ?_
  exact retV (res1 rfl rfl) hS.ext
set_option maxHeartbeats 1000000 in
/-- slices.BinarySearchFunc   barrage/api.TdDatum,barrage/api.TdDatum,int  -/
theorem c_SearchDatum {l : List Datum} {v : Value} {t : Int} {w0 : World} (hsl : Sl w0 3 RDatum v l) (hp : l.Pairwise fun a b => a.start < b.start) (hl : l.length ≤ 1000) : CE Try.prog 111 #[v, .int .i64 t, .func (.func 112) #[] #[]] w0 (fun v w' => ∃ i is, v = .tuple #[.int .i64 ((i : Nat) : Int), .bool is] ∧ searchD l t i is ∧ Ext w0 w') := by
  obtain ⟨a, cap, rfl, hcap, hmx, hel⟩ := id hsl
  refine enter Try.func111 rfl Try.ntmps111 rfl ?_
  have hS := St.start w0
  refine seq ?_
  refine region ?_
  refine sv (yAsg rfl) ?_
  refine sv (yAsg rfl) ?_
  refine nil ?_
  show Code.wp _ _ _ _ _
  refine seq ?_
  refine region ?_
  refine sv (yMove rfl) ?_
  refine sv (yLen rfl Try.underlying31) ?_
  refine sv (yAsg rfl) ?_
  refine nil ?_
  show Code.wp _ _ _ _ _
  refine seq ?_
  refine region ?_
  refine sv (yMove rfl) ?_
  refine sv (yAsg rfl) ?_
  refine sv (yAsg rfl) ?_
  refine nil ?_
  show Code.wp _ _ _ _ _
  refine seq ?_
  refine block ?_
  refine loop (fun f w m => ∃ (i j : Nat), f 0 = .slice a l.length cap ∧ f 1 = .int .i64 t ∧ f 2 = .func (.func 112) #[] #[] ∧ f 8 = .int .i64 (l.length : Int) ∧ f 9 = .int .i64 (i : Int) ∧ f 10 = .int .i64 (j : Int) ∧ St w0 w [] ∧ (i ≤ j ∧ j ≤ l.length) ∧ (∀ k d, l[k]? = some d → k < i → d.start < t) ∧ (∀ k d, l[k]? = some d → j ≤ k → t ≤ d.start) ∧ m = j - i) _ ⟨_, rfl, 0, l.length, rfl, rfl, rfl, rfl, rfl, rfl, hS, (⟨Nat.zero_le _, Nat.le_refl _⟩), (fun k d _ h => absurd h (Nat.not_lt_zero k)), (fun k d h h2 => by rw [List.getElem?_eq_none h2] at h; cases h), rfl⟩ ?_
  clear hS
  rintro f w _ ⟨i, j, h0, h1, h2, h8, h9, h10, hS, hij, hlo, hhi, rfl⟩
  refine seq ?_
  refine seq ?_
  refine region ?_
  refine sv (yMove h9) ?_
  refine sv (yMove h10) ?_
  refine sv (yLss rfl rfl) ?_
  refine nil ?_
  show Code.wp _ _ _ _ _
  refine cond rfl (fun c17 => ?_) (fun c17 => ?_)
  ·
    simp only [Bool.and_eq_true, Bool.or_eq_true, Bool.and_eq_false_iff, Bool.or_eq_false_iff, decide_eq_true_eq, decide_eq_false_iff_not, Bool.not_eq_true, Bool.not_eq_false, Bool.not_not, Bool.not_eq_eq_eq_not, Bool.not_true, Bool.not_false, Bool.false_eq_true, Bool.true_eq_false, ne_eq, Decidable.not_not, not_false_eq_true, not_true_eq_false] at c17
    refine skip ?_
    show Code.wp _ _ _ _ _
    refine block ?_
    refine seq ?_
    refine region ?_
    refine sv (yMove h9) ?_
    refine sv (yMove h10) ?_
    refine sv (yAdd rfl rfl ⟨by omega, by omega⟩) ?_
    refine sv (yToU rfl Try.underlying3 Try.underlying154 ⟨by omega, by omega⟩) ?_
    refine sv (yShr1 rfl rfl) ?_
    refine sv (Y.to (yToI rfl Try.underlying154 Try.underlying3 ⟨by omega, by omega⟩) (show Value.int .i64 (((i : Int) + (j : Int)) / 2) = .int .i64 (((i + j) / 2 : Nat) : Int) by congr 1)) ?_
    refine sv (yAsg rfl) ?_
    refine nil ?_
    show Code.wp _ _ _ _ _
    refine seq ?_
    refine region ?_
    obtain ⟨d, hx, hd⟩ := drop_of (l := l) (k := (i + j) / 2) (by omega)
    obtain ⟨b, o, cs, ha, hlen, hcs, hR⟩ := hel ((i + j) / 2) (by omega)
    obtain rfl : d = l[(i + j) / 2] := (List.getElem?_eq_some_iff.1 hx).2.symm
    generalize l[(i + j) / 2] = d at hx hd hR
    obtain ⟨rfl, hd1, hd2, hd3⟩ := hR
    refine sv (yMove h2) ?_
    refine sv (yMove h0) ?_
    refine sv (yMove rfl) ?_
    refine sv (yIxa rfl ha rfl Try.runUnderlying31 Try.sizeOf78 (by omega) (by omega)) ?_
    refine sv (yLdA rfl Try.isAgg78 Try.sizeOf78 (hcs.ext hS.ext) rfl) ?_
    refine sv (yMove h1) ?_
    refine scallf rfl Try.call112 (.cons rfl (.cons rfl .nil)) c_datum1 ?_
    rintro _ w ⟨rfl, hE⟩; replace hS := hS.step hE; clear hE
    refine sv (yLss rfl rfl) ?_
    refine nil ?_
    show Code.wp _ _ _ _ _
    refine cond rfl (fun c31 => ?_) (fun c31 => ?_)
    ·
      simp only [Bool.and_eq_true, Bool.or_eq_true, Bool.and_eq_false_iff, Bool.or_eq_false_iff, decide_eq_true_eq, decide_eq_false_iff_not, Bool.not_eq_true, Bool.not_eq_false, Bool.not_not, Bool.not_eq_eq_eq_not, Bool.not_true, Bool.not_false, Bool.false_eq_true, Bool.true_eq_false, ne_eq, Decidable.not_not, not_false_eq_true, not_true_eq_false, cmpI_lt] at c31
      refine region ?_
      refine sv (yMove rfl) ?_
      refine sv (yAdd rfl rfl ⟨by omega, by omega⟩) ?_
      refine sv (yAsg rfl) ?_
      refine nil ?_
      exact ⟨_, _, rfl, ⟨(i + j) / 2 + 1, j, h0, h1, h2, h8, rfl, h10, hS, (⟨by omega, by omega⟩), (fun k x hk hkm => by have := asc_le hp hk hx (by omega); omega), (hhi), rfl⟩, by omega⟩
    ·
      simp only [Bool.and_eq_true, Bool.or_eq_true, Bool.and_eq_false_iff, Bool.or_eq_false_iff, decide_eq_true_eq, decide_eq_false_iff_not, Bool.not_eq_true, Bool.not_eq_false, Bool.not_not, Bool.not_eq_eq_eq_not, Bool.not_true, Bool.not_false, Bool.false_eq_true, Bool.true_eq_false, ne_eq, Decidable.not_not, not_false_eq_true, not_true_eq_false, cmpI_lt] at c31
      refine region ?_
      refine sv (yMove rfl) ?_
      refine sv (yAsg rfl) ?_
      refine nil ?_
      exact ⟨_, _, rfl, ⟨i, (i + j) / 2, h0, h1, h2, h8, h9, rfl, hS, (⟨by omega, by omega⟩), (hlo), (fun k x hk hkm => by have := asc_le hp hx hk (by omega); omega), rfl⟩, by omega⟩
  ·
    simp only [Bool.and_eq_true, Bool.or_eq_true, Bool.and_eq_false_iff, Bool.or_eq_false_iff, decide_eq_true_eq, decide_eq_false_iff_not, Bool.not_eq_true, Bool.not_eq_false, Bool.not_not, Bool.not_eq_eq_eq_not, Bool.not_true, Bool.not_false, Bool.false_eq_true, Bool.true_eq_false, ne_eq, Decidable.not_not, not_false_eq_true, not_true_eq_false] at c17
    refine exit ?_
    show Code.wp _ _ _ _ _
    refine seq ?_
    refine region ?_
    obtain rfl : i = j := by omega
    obtain ⟨b, o, hk⟩ : ∃ b o, i < l.length → a = some ⟨b, o, none⟩ ∧ Cells w0 b (o + i * 3) (datumC (l.getD i ⟨0, ⟨0, 0⟩⟩)) := by
      by_cases hi : i < l.length
      · obtain ⟨b, o, cs, ha, hlen, hcs, hR⟩ := hel i hi
        exact ⟨b, o, fun _ => ⟨ha, by rw [show l.getD i ⟨0, ⟨0, 0⟩⟩ = l[i] by simp [hi], ← hR.1]; exact hcs⟩⟩
      · exact ⟨0, 0, fun h => absurd h hi⟩
    refine sv (yMove h9) ?_
    refine sv (yMove h9) ?_
    refine sv (yMove h8) ?_
    refine sv (yLss rfl rfl) ?_
    refine sv (yMove rfl) ?_
    refine sg rfl rfl rfl (fun g => (yMove h2)) (fun v40 g40 => ?_)
    refine sg rfl rfl rfl (fun g => (yMove h0)) (fun v41 g41 => ?_)
    refine sg rfl rfl rfl (fun g => (yMove h9)) (fun v42 g42 => ?_)
    refine sg rfl rfl rfl (fun g => (yIxa (g41.1 g) (hk (by have := of_decide_eq_true g; omega)).1 (g42.1 g) Try.runUnderlying31 Try.sizeOf78 (by omega) (of_decide_eq_true g))) (fun v43 g43 => ?_)
    refine sg rfl rfl rfl (fun g => (yLdA (g43.1 g) Try.isAgg78 Try.sizeOf78 ((hk (by have := of_decide_eq_true g; omega)).2.ext hS.ext) rfl)) (fun v44 g44 => ?_)
    refine sg rfl rfl rfl (fun g => (yMove h1)) (fun v45 g45 => ?_)
    refine sgcf hS rfl rfl rfl (fun g => (g40.1 g)) Try.call112 (fun g => (.cons (g44.1 g) (.cons (g45.1 g) .nil))) (fun g => c_datum1) ?_; clear hS; intro v46 w hS g46
    refine sg rfl rfl rfl (fun g => (yEql (g46.1 g) rfl)) (fun v47 g47 => ?_)
    refine sv (yAnd rfl (fun hB => (g47.1 hB)) rfl) ?_
    refine sv (yAsg rfl) ?_
    refine sv (yAsg rfl) ?_
    refine nil ?_
    show Code.wp _ _ _ _ _
    refine wp_ret ?_
    refine retQ (res2 rfl rfl rfl) ?_
    refine ⟨i, _, rfl, ⟨hij.2, hlo, hhi, ?_⟩, hS.ext⟩
    simp only [Bool.and_eq_true, decide_eq_true_eq, cmpI_eq]
    constructor
    · rintro ⟨h1, h2⟩
      have h1 : i < l.length := by omega
      exact ⟨l[i], by simp [h1], by simpa [h1] using h2⟩
    · rintro ⟨d, h1, h2⟩
      have h3 := (List.getElem?_eq_some_iff.1 h1).1
      refine ⟨by omega, ?_⟩
      rw [List.getD_eq_getElem?_getD, h1]; exact h2
end Go.Proofs.Ytpgmehignepidaa
