/- Walks, part Wk7. -/
import Derived.Test.YtpgmehignepidaaWk6
set_option linter.all false
namespace Go.Proofs.Ytpgmehignepidaa
open Go Bx
/-- barrage/barrageref01.datum -/
theorem c_rdatum {g : Gauge} {r : Reading} {cs : List Value} {w0 : World} (hg : RGauge w0 cs g) (hok : GaugeOk g) (hr : 0 ≤ r.tick) : CV Try.prog 100 #[.agg cs.toArray, .agg (readC r).toArray] w0 (.int .i64 (datI g.datums r.tick : Nat)) := by
  obtain ⟨dv, rv, rfl, hnm, hge, hgr, hsd, hsr⟩ := id hg
  obtain ⟨a, cap, rfl, hcap, hmx, hel⟩ := id hsd
  obtain ⟨a2, cap2, rfl, hcap2, hmx2, hel2⟩ := id hsr
  have hc := cntD_pos hok.len.1 hok.first hr
  have hl8 := hok.len.2
  have hcl := cntD_le g.datums r.tick
  refine enter Try.func100 rfl Try.ntmps100 rfl ?_
  have hS := St.start w0
  refine seq ?_
  refine region ?_
  refine sbox hS rfl rfl ?_; clear hS; intro b2 w hS
  refine sbox hS rfl rfl ?_; clear hS; intro b3 w hS
  refine sv (yAsg rfl) ?_
  refine nil ?_
  show Code.wp _ _ _ _ _
  refine seq ?_
  refine region ?_
  refine sv (yAsg rfl) ?_
  refine nil ?_
  show Code.wp _ _ _ _ _
  refine seq ?_
  refine seq ?_
  refine region ?_
  refine sv (yAsg rfl) ?_
  refine nil ?_
  show Code.wp _ _ _ _ _
  refine block ?_
  refine loop (fun f w m => ∃ (k out : Nat), f 2 = .pointer (some ⟨b2, 0, none⟩) ∧ f 3 = .pointer (some ⟨b3, 0, none⟩) ∧ f 5 = .int .i64 (out : Int) ∧ f 6 = .int .i64 (k : Int) ∧ St w0 w [blk b3 (readC r) 103, blk b2 [.string g.name, .int .i64 g.err, .int .i64 g.rate, .slice a g.datums.length cap, .slice a2 g.readings.length cap2] 34] ∧ (k ≤ g.datums.length) ∧ (out = min k (cntD g.datums r.tick) - 1) ∧ m = g.datums.length - k) _ ⟨_, rfl, 0, 0, rfl, rfl, rfl, rfl, hS, (Nat.zero_le _), (by omega), rfl⟩ ?_
  clear hS
  rintro f w _ ⟨k, out, h2, h3, h5, h6, hS, hk, ho, rfl⟩
  refine seq ?_
  refine seq ?_
  refine region ?_
  refine sv (yMove h6) ?_
  refine sv (fa34_3 h2) ?_
  refine sv (yLdB rfl Try.isAgg31 (hS.at _) rfl) ?_
  refine sv (yLen rfl Try.underlying31) ?_
  refine sv (yLss rfl rfl) ?_
  refine nil ?_
  show Code.wp _ _ _ _ _
  refine cond rfl (fun c11 => ?_) (fun c11 => ?_)
  ·
    simp only [Bool.and_eq_true, Bool.or_eq_true, Bool.and_eq_false_iff, Bool.or_eq_false_iff, decide_eq_true_eq, decide_eq_false_iff_not, Bool.not_eq_true, Bool.not_eq_false, Bool.not_not, Bool.not_eq_eq_eq_not, Bool.not_true, Bool.not_false, Bool.false_eq_true, Bool.true_eq_false, ne_eq, Decidable.not_not, not_false_eq_true, not_true_eq_false] at c11
    obtain ⟨d, hx, hd⟩ := drop_of (l := g.datums) (k := k) (by omega)
    obtain ⟨b, o, cs, ha, hlen, hcs, hR⟩ := hel (k) (by omega)
    obtain rfl : d = g.datums[k] := (List.getElem?_eq_some_iff.1 hx).2.symm
    generalize g.datums[k] = d at hx hd hR
    obtain ⟨rfl, hd1, hd2, hd3⟩ := hR
    refine skip ?_
    show Code.wp _ _ _ _ _
    refine seq ?_
    refine block ?_
    refine seq ?_
    refine region_draw mixed (by kernel_rfl) hS ?_
    refine qv (fun w hS => (fa34_3 h2)) ?_
    refine qv (fun w hS => (yLdB rfl Try.isAgg31 (hS.at _) rfl)) ?_
    refine qv (fun w hS => (yMove h6)) ?_
    refine qv (fun w hS => (yIxa rfl ha rfl Try.runUnderlying31 Try.sizeOf78 (by omega) (by omega))) ?_
    refine qv (fun w hS => (fa78_0 rfl)) ?_
    refine qv (fun w hS => (yLd rfl Try.isAgg3 ((hcs.ext hS.ext).at (j := 0) rfl))) ?_
    refine qv (fun w hS => (fa103_0 h3)) ?_
    refine qv (fun w hS => (yLdB rfl Try.isAgg3 (hS.at _) rfl)) ?_
    refine qv (fun w hS => (yLeq rfl rfl)) ?_
    clear hS; refine qnil (fun w hS => ?_)
    show Code.wp _ _ _ _ _
    refine cond rfl (fun c22 => ?_) (fun c22 => ?_)
    ·
      simp only [Bool.and_eq_true, Bool.or_eq_true, Bool.and_eq_false_iff, Bool.or_eq_false_iff, decide_eq_true_eq, decide_eq_false_iff_not, Bool.not_eq_true, Bool.not_eq_false, Bool.not_not, Bool.not_eq_eq_eq_not, Bool.not_true, Bool.not_false, Bool.false_eq_true, Bool.true_eq_false, ne_eq, Decidable.not_not, not_false_eq_true, not_true_eq_false] at c22
      have hlt : k < cntD g.datums r.tick := Nat.lt_of_not_le fun h => by have := cntD_ge g.datums r.tick k d hok.asc hx h; omega
      refine region ?_
      refine sv (yMove h6) ?_
      refine sv (yAsg rfl) ?_
      refine nil ?_
      show Code.wp _ _ _ _ _
      refine region ?_
      refine sv (yMove h6) ?_
      refine sv (yAdd rfl rfl ⟨by omega, by omega⟩) ?_
      refine sv (yAsg rfl) ?_
      refine nil ?_
      exact ⟨_, _, rfl, ⟨k + 1, k, h2, h3, rfl, rfl, hS, (by omega), (by omega), rfl⟩, by omega⟩
    ·
      simp only [Bool.and_eq_true, Bool.or_eq_true, Bool.and_eq_false_iff, Bool.or_eq_false_iff, decide_eq_true_eq, decide_eq_false_iff_not, Bool.not_eq_true, Bool.not_eq_false, Bool.not_not, Bool.not_eq_eq_eq_not, Bool.not_true, Bool.not_false, Bool.false_eq_true, Bool.true_eq_false, ne_eq, Decidable.not_not, not_false_eq_true, not_true_eq_false] at c22
      have hge2 : cntD g.datums r.tick ≤ k := Nat.le_of_not_lt fun h => by have := cntD_lt g.datums r.tick k d hx h; omega
      refine skip ?_
      show Code.wp _ _ _ _ _
      refine region ?_
      refine sv (yMove h6) ?_
      refine sv (yAdd rfl rfl ⟨by omega, by omega⟩) ?_
      refine sv (yAsg rfl) ?_
      refine nil ?_
      exact ⟨_, _, rfl, ⟨k + 1, out, h2, h3, h5, rfl, hS, (by omega), (by omega), rfl⟩, by omega⟩
  ·
    simp only [Bool.and_eq_true, Bool.or_eq_true, Bool.and_eq_false_iff, Bool.or_eq_false_iff, decide_eq_true_eq, decide_eq_false_iff_not, Bool.not_eq_true, Bool.not_eq_false, Bool.not_not, Bool.not_eq_eq_eq_not, Bool.not_true, Bool.not_false, Bool.false_eq_true, Bool.true_eq_false, ne_eq, Decidable.not_not, not_false_eq_true, not_true_eq_false] at c11
    obtain rfl : k = g.datums.length := by omega
    refine exit ?_
    show Code.wp _ _ _ _ _
    refine seq ?_
    refine region ?_
    refine sv (yMove h5) ?_
    refine sv (yAsg rfl) ?_
    refine nil ?_
    show Code.wp _ _ _ _ _
    refine wp_ret ?_
    exact retV (res1 rfl (eqI (by unfold datI; omega))) hS.ext
set_option maxHeartbeats 2000000 in
/-- barrage/barrageref01.says -/
theorem c_rsays {g : Gauge} {cs : List Value} {t now : Int} {w0 : World} (hg : RGauge w0 cs g) (hok : GaugeOk g) (ht : Bd t 0 200000) : CV Try.prog 70 #[.agg cs.toArray, .int .i64 t, .int .i64 now] w0 (.tuple #[.agg (spanC (saysG g t now).1).toArray, .int .i64 (saysG g t now).2]) := by
  obtain ⟨dv, rv, rfl, hnm, hge, hgr, hsd, hsr⟩ := id hg
  obtain ⟨a, cap, rfl, hcap, hmx, hel⟩ := id hsd
  obtain ⟨a2, cap2, rfl, hcap2, hmx2, hel2⟩ := id hsr
  have hrl := hok.rlen
  have hge := hok.err
  have hgr := hok.rate
  refine enter Try.func70 rfl Try.ntmps70 rfl ?_
  have hS := St.start w0
  refine seq ?_
  refine region ?_
  refine sbox hS rfl rfl ?_; clear hS; intro b3 w hS
  refine salloc hS Try.zeroValue38 rfl ?_; clear hS; intro b6 w hS
  refine sv (yAsg rfl) ?_
  refine nil ?_
  show Code.wp _ _ _ _ _
  refine seq ?_
  refine region ?_
  refine sv (yBuild Try.zeroValue38 rfl pl38 (.cons rfl rfl (.cons rfl rfl .nil)) rfl) ?_
  refine salloc hS Try.zeroValue38 rfl ?_; clear hS; intro b8 w hS
  refine sst hS rfl rfl Try.sizeOf38 rfl rfl rfl rfl ?_; clear hS; intro w hS
  refine nil ?_
  show Code.wp _ _ _ _ _
  refine seq ?_
  refine region ?_
  refine sv (yAsg rfl) ?_
  refine nil ?_
  show Code.wp _ _ _ _ _
  refine seq ?_
  refine seq ?_
  refine region ?_
  refine sv (yAsg rfl) ?_
  refine nil ?_
  show Code.wp _ _ _ _ _
  refine block ?_
  refine loop (fun f w m => ∃ (k : Nat) (A : Bool), f 1 = .int .i64 t ∧ f 2 = .int .i64 now ∧ f 3 = .pointer (some ⟨b3, 0, none⟩) ∧ f 6 = .pointer (some ⟨b6, 0, none⟩) ∧ f 8 = .pointer (some ⟨b8, 0, none⟩) ∧ f 9 = .bool A ∧ f 10 = .int .i64 (k : Int) ∧ St w0 w [blk b8 (spanC (cuts g t (known (g.readings.take k) now))) 38, blk b6 [.int .i64 0, .int .i64 0] 38, blk b3 [.string g.name, .int .i64 g.err, .int .i64 g.rate, .slice a g.datums.length cap, .slice a2 g.readings.length cap2] 34] ∧ (k ≤ g.readings.length) ∧ (A = decide (known (g.readings.take k) now ≠ [])) ∧ m = g.readings.length - k) _ ⟨_, rfl, 0, false, rfl, rfl, rfl, rfl, rfl, rfl, rfl, hS, (Nat.zero_le _), (rfl), rfl⟩ ?_
  clear hS
  rintro f w _ ⟨k, A, h1, h2, h3, h6, h8, h9, h10, hS, hk, hA, rfl⟩
  refine seq ?_
  refine seq ?_
  refine region ?_
  refine sv (yMove h10) ?_
  refine sv (fa34_4 h3) ?_
  refine sv (yLdB rfl Try.isAgg32 (hS.at _) rfl) ?_
  refine sv (yLen rfl Try.underlying32) ?_
  refine sv (yLss rfl rfl) ?_
  refine nil ?_
  show Code.wp _ _ _ _ _
  refine cond rfl (fun c19 => ?_) (fun c19 => ?_)
  ·
    simp only [Bool.and_eq_true, Bool.or_eq_true, Bool.and_eq_false_iff, Bool.or_eq_false_iff, decide_eq_true_eq, decide_eq_false_iff_not, Bool.not_eq_true, Bool.not_eq_false, Bool.not_not, Bool.not_eq_eq_eq_not, Bool.not_true, Bool.not_false, Bool.false_eq_true, Bool.true_eq_false, ne_eq, Decidable.not_not, not_false_eq_true, not_true_eq_false] at c19
    obtain ⟨r, hx, hd⟩ := drop_of (l := g.readings) (k := k) (by omega)
    obtain ⟨b, o, cs, ha, hlen, hcs, hR⟩ := hel2 (k) (by omega)
    obtain rfl : r = g.readings[k] := (List.getElem?_eq_some_iff.1 hx).2.symm
    generalize g.readings[k] = r at hx hd hR
    obtain ⟨rfl, hr1, hr2⟩ := hR
    refine skip ?_
    show Code.wp _ _ _ _ _
    refine seq ?_
    refine block ?_
    refine seq ?_
    refine region ?_
    refine sv (fa34_4 h3) ?_
    refine sv (yLdB rfl Try.isAgg32 (hS.at _) rfl) ?_
    refine sv (yMove h10) ?_
    refine sv (yIxa rfl ha rfl Try.runUnderlying32 Try.sizeOf103 (by omega) (by omega)) ?_
    refine sv (yLdA rfl Try.isAgg103 Try.sizeOf103 (hcs.ext hS.ext) rfl) ?_
    refine salloc hS Try.zeroValue103 rfl ?_; clear hS; intro b11 w hS
    refine sst hS rfl rfl Try.sizeOf103 rfl rfl rfl rfl ?_; clear hS; intro w hS
    refine nil ?_
    show Code.wp _ _ _ _ _
    refine seq ?_
    refine seq ?_
    refine region ?_
    refine sv (fa103_0 rfl) ?_
    refine sv (yLdB rfl Try.isAgg3 (hS.at _) rfl) ?_
    refine sv (yMove h2) ?_
    refine sv (yGtr rfl rfl) ?_
    refine nil ?_
    show Code.wp _ _ _ _ _
    refine cond rfl (fun c30 => ?_) (fun c30 => ?_)
    ·
      simp only [Bool.and_eq_true, Bool.or_eq_true, Bool.and_eq_false_iff, Bool.or_eq_false_iff, decide_eq_true_eq, decide_eq_false_iff_not, Bool.not_eq_true, Bool.not_eq_false, Bool.not_not, Bool.not_eq_eq_eq_not, Bool.not_true, Bool.not_false, Bool.false_eq_true, Bool.true_eq_false, ne_eq, Decidable.not_not, not_false_eq_true, not_true_eq_false] at c30
      refine exit ?_
      show Code.wp _ _ _ _ _
      refine region ?_
      refine sv (yMove h10) ?_
      refine sv (yAdd rfl rfl ⟨by omega, by omega⟩) ?_
      refine sv (yAsg rfl) ?_
      refine nil ?_
      exact ⟨_, _, rfl, ⟨k + 1, A, h1, h2, h3, h6, h8, h9, rfl, (by rw [known_snoc_out hx c30]; exact hS.sub (.cons _ (List.Sublist.refl _))), (by omega), (by rw [known_snoc_out hx c30]; exact hA), rfl⟩, by omega⟩
    ·
      simp only [Bool.and_eq_true, Bool.or_eq_true, Bool.and_eq_false_iff, Bool.or_eq_false_iff, decide_eq_true_eq, decide_eq_false_iff_not, Bool.not_eq_true, Bool.not_eq_false, Bool.not_not, Bool.not_eq_eq_eq_not, Bool.not_true, Bool.not_false, Bool.false_eq_true, Bool.true_eq_false, ne_eq, Decidable.not_not, not_false_eq_true, not_true_eq_false] at c30
      have hro := hok.reads r (List.mem_of_getElem? hx)
      have hrt := hro.tick
      have hrv := hro.value
      have hfb := farR_bd hok ht hro
      have hmb : Bd (g.rate * max (t - r.tick) (r.tick - t)) 0 1000000000 := hfb
      obtain ⟨d, hxd, hds, hdok⟩ := datum_at hok hro.tick.1
      have hdl := datI_lt hok hro.tick.1
      obtain ⟨b1, o1, cs1, ha1, hlen1, hcs1, hR1⟩ := hel _ hdl
      obtain rfl : d = g.datums[datI g.datums r.tick] := (List.getElem?_eq_some_iff.1 hxd).2.symm
      generalize g.datums[datI g.datums r.tick] = d at hR1 hds hdok
      obtain ⟨rfl, _⟩ := hR1
      have hdb := hdok.shift
      refine skip ?_
      show Code.wp _ _ _ _ _
      refine seq ?_
      refine region ?_
      refine sv (yAsg rfl) ?_
      refine nil ?_
      show Code.wp _ _ _ _ _
      refine seq ?_
      refine region_any (C := (fun w => StX [] w0 w [blk b11 (readC r) 103, blk b8 (spanC (cuts g t (known (g.readings.take k) now))) 38, blk b6 [.int .i64 0, .int .i64 0] 38, blk b3 [.string g.name, .int .i64 g.err, .int .i64 g.rate, .slice a g.datums.length cap, .slice a2 g.readings.length cap2] 34])) mixed 4 9 (by kernel_rfl) (fun c a a' w h => by obtain ⟨_, v, hv, _⟩ := h; cases hv) hS (fun _ h => h) ?_
      clear hS; intro w hS
      refine hv (fun w hS => (fa34_3 h3)) ?_
      refine hv (fun w hS => (yLdB rfl Try.isAgg31 (hS.at _) rfl)) ?_
      refine hv (fun w hS => (yLdBA h3 Try.isAgg34 Try.sizeOf34 (hS.at _) rfl rfl)) ?_
      refine hv (fun w hS => (yLdBA rfl Try.isAgg103 Try.sizeOf103 (hS.at _) rfl rfl)) ?_
      refine hnil ?_
      show wpA _ _ _ _ _ _ _ _ _ _
      refine a_step (i := 4) (is := [8]) (by kernel_rfl) ⟨?_, ?_, trivial⟩
      ·
        refine ⟨_, rfl, ?_⟩
        refine scall Try.call100 (.cons rfl (.cons rfl .nil)) (c_rdatum (r := r) (hg.ext hS.ext) hok hro.tick.1) ?_
        rintro _ w ⟨rfl, hE⟩; replace hS := hS.step hE; clear hE
        refine nil ?_
        refine ⟨fun _ => hS.sub (List.Sublist.refl _), ?_⟩
        show wpA _ _ _ _ _ _ _ _ _ _
        refine a_step (i := 5) (is := [8]) (by kernel_rfl) ⟨?_, ?_, trivial⟩
        ·
          refine ⟨_, rfl, ?_⟩
          refine sv (yIxa rfl ha1 rfl Try.runUnderlying31 Try.sizeOf78 (by omega) (by omega)) ?_
          refine nil ?_
          refine ⟨fun _ => hS.sub (List.Sublist.refl _), ?_⟩
          show wpA _ _ _ _ _ _ _ _ _ _
          refine a_step (i := 6) (is := [8]) (by kernel_rfl) ⟨?_, ?_, trivial⟩
          ·
            refine ⟨_, rfl, ?_⟩
            refine sv (fa78_1 rfl) ?_
            refine nil ?_
            refine ⟨fun _ => hS.sub (List.Sublist.refl _), ?_⟩
            show wpA _ _ _ _ _ _ _ _ _ _
            refine a_step (i := 7) (is := [8]) (by kernel_rfl) ⟨?_, ?_, trivial⟩
            ·
              refine ⟨_, rfl, ?_⟩
              refine sv (yLdA rfl Try.isAgg38 Try.sizeOf38 ((hcs1.mid (xs := spanC d.shift) 1 rfl).ext hS.ext) rfl) ?_
              refine nil ?_
              refine ⟨fun _ => hS.sub (List.Sublist.refl _), ?_⟩
              show wpA _ _ _ _ _ _ _ _ _ _
              refine a_step (i := 8) (is := []) (by kernel_rfl) ⟨?_, trivial⟩
              refine ⟨_, rfl, ?_⟩
              refine salloc hS Try.zeroValue38 rfl ?_; clear hS; intro b12 w hS
              refine nil ?_
              refine ⟨fun _ => hS.sub (.cons _ (List.Sublist.refl _)), ?_⟩
              show wpA _ _ _ _ _ _ _ _ _ _
              refine a_step (i := 9) (is := []) (by kernel_rfl) ⟨?_, trivial⟩
              refine ⟨_, rfl, ?_⟩
              refine sst hS rfl rfl Try.sizeOf38 rfl rfl rfl rfl ?_; clear hS; intro w hS
              refine nil ?_
              refine ⟨fun h => absurd h (by decide), ?_⟩
              show wpA _ _ _ _ _ _ _ _ _ _
              refine a_end (by kernel_rfl) ?_
              show Code.wp _ _ _ _ _
              refine seq ?_
              refine region ?_
              refine sv (fa34_2 h3) ?_
              refine sv (yLdB rfl Try.isAgg3 (hS.at _) rfl) ?_
              refine sv (yMove h1) ?_
              refine sv (fa103_0 rfl) ?_
              refine sv (yLdB rfl Try.isAgg3 (hS.at _) rfl) ?_
              refine sv (ySub rfl rfl ⟨by omega, by omega⟩) ?_
              refine sv (fa103_0 rfl) ?_
              refine sv (yLdB rfl Try.isAgg3 (hS.at _) rfl) ?_
              refine sv (yMove h1) ?_
              refine sv (ySub rfl rfl ⟨by omega, by omega⟩) ?_
              refine sv (yMax rfl rfl) ?_
              refine sv (yMul rfl rfl ⟨by omega, by omega⟩) ?_
              refine sv (yAsg rfl) ?_
              refine nil ?_
              show Code.wp _ _ _ _ _
              refine seq ?_
              refine region ?_
              refine sv (fa38_0 h8) ?_
              refine sv (yLdB rfl Try.isAgg3 (hS.at _) rfl) ?_
              refine sv (fa103_1 rfl) ?_
              refine sv (yLdB rfl Try.isAgg3 (hS.at _) rfl) ?_
              refine sv (fa34_1 h3) ?_
              refine sv (yLdB rfl Try.isAgg3 (hS.at _) rfl) ?_
              refine sv (ySub rfl rfl ⟨by omega, by omega⟩) ?_
              refine sv (fa38_1 rfl) ?_
              refine sv (yLdB rfl Try.isAgg3 (hS.at _) rfl) ?_
              refine sv (ySub rfl rfl ⟨by omega, by omega⟩) ?_
              refine sv (yMove rfl) ?_
              refine sv (Y.to (ySub rfl rfl ⟨by omega, by omega⟩) (congrArg _ (read_lo hds))) ?_
              refine sv (yMax rfl rfl) ?_
              refine sv (fa38_0 h8) ?_
              refine sst hS rfl rfl Try.sizeOf3 rfl rfl rfl rfl ?_; clear hS; intro w hS
              refine nil ?_
              show Code.wp _ _ _ _ _
              refine region ?_
              refine sv (fa38_1 h8) ?_
              refine sv (yLdB rfl Try.isAgg3 (hS.at _) rfl) ?_
              refine sv (fa103_1 rfl) ?_
              refine sv (yLdB rfl Try.isAgg3 (hS.at _) rfl) ?_
              refine sv (fa34_1 h3) ?_
              refine sv (yLdB rfl Try.isAgg3 (hS.at _) rfl) ?_
              refine sv (yAdd rfl rfl ⟨by omega, by omega⟩) ?_
              refine sv (fa38_0 rfl) ?_
              refine sv (yLdB rfl Try.isAgg3 (hS.at _) rfl) ?_
              refine sv (ySub rfl rfl ⟨by omega, by omega⟩) ?_
              refine sv (yMove rfl) ?_
              refine sv (Y.to (yAdd rfl rfl ⟨by omega, by omega⟩) (congrArg _ (read_hi hds))) ?_
              refine sv (yMin rfl rfl) ?_
              refine sv (fa38_1 h8) ?_
              refine sst hS rfl rfl Try.sizeOf3 rfl rfl rfl rfl ?_; clear hS; intro w hS
              refine nil ?_
              show Code.wp _ _ _ _ _
              refine region ?_
              refine sv (yMove h10) ?_
              refine sv (yAdd rfl rfl ⟨by omega, by omega⟩) ?_
              refine sv (yAsg rfl) ?_
              refine nil ?_
              exact ⟨_, _, rfl, ⟨k + 1, true, h1, h2, h3, h6, h8, rfl, rfl, (by rw [known_snoc_in hx (by omega), cuts_snoc]; exact hS.sub (.cons _ (.cons _ (List.Sublist.refl _)))), (by omega), (by rw [known_snoc_in hx (by omega)]; simp), rfl⟩, by omega⟩
            ·
              refine ⟨_, rfl, ?_⟩
              refine salloc hS Try.zeroValue38 rfl ?_; clear hS; intro b12 w hS
              refine nil ?_
              refine ⟨fun _ => hS.sub (.cons _ (List.Sublist.refl _)), ?_⟩
              show wpA _ _ _ _ _ _ _ _ _ _
              refine a_step (i := 7) (is := []) (by kernel_rfl) ⟨?_, trivial⟩
              refine ⟨_, rfl, ?_⟩
              refine sv (yLdA rfl Try.isAgg38 Try.sizeOf38 ((hcs1.mid (xs := spanC d.shift) 1 rfl).ext hS.ext) rfl) ?_
              refine nil ?_
              refine ⟨fun _ => hS.sub (.cons _ (List.Sublist.refl _)), ?_⟩
              show wpA _ _ _ _ _ _ _ _ _ _
              refine a_step (i := 9) (is := []) (by kernel_rfl) ⟨?_, trivial⟩
              refine ⟨_, rfl, ?_⟩
              refine sst hS rfl rfl Try.sizeOf38 rfl rfl rfl rfl ?_; clear hS; intro w hS
              refine nil ?_
              refine ⟨fun h => absurd h (by decide), ?_⟩
              show wpA _ _ _ _ _ _ _ _ _ _
              refine a_end (by kernel_rfl) ?_
              show Code.wp _ _ _ _ _
              refine seq ?_
              refine region ?_
              refine sv (fa34_2 h3) ?_
              refine sv (yLdB rfl Try.isAgg3 (hS.at _) rfl) ?_
              refine sv (yMove h1) ?_
              refine sv (fa103_0 rfl) ?_
              refine sv (yLdB rfl Try.isAgg3 (hS.at _) rfl) ?_
              refine sv (ySub rfl rfl ⟨by omega, by omega⟩) ?_
              refine sv (fa103_0 rfl) ?_
              refine sv (yLdB rfl Try.isAgg3 (hS.at _) rfl) ?_
              refine sv (yMove h1) ?_
              refine sv (ySub rfl rfl ⟨by omega, by omega⟩) ?_
              refine sv (yMax rfl rfl) ?_
              refine sv (yMul rfl rfl ⟨by omega, by omega⟩) ?_
              refine sv (yAsg rfl) ?_
              refine nil ?_
              show Code.wp _ _ _ _ _
              refine seq ?_
              refine region ?_
              refine sv (fa38_0 h8) ?_
              refine sv (yLdB rfl Try.isAgg3 (hS.at _) rfl) ?_
              refine sv (fa103_1 rfl) ?_
              refine sv (yLdB rfl Try.isAgg3 (hS.at _) rfl) ?_
              refine sv (fa34_1 h3) ?_
              refine sv (yLdB rfl Try.isAgg3 (hS.at _) rfl) ?_
              refine sv (ySub rfl rfl ⟨by omega, by omega⟩) ?_
              refine sv (fa38_1 rfl) ?_
              refine sv (yLdB rfl Try.isAgg3 (hS.at _) rfl) ?_
              refine sv (ySub rfl rfl ⟨by omega, by omega⟩) ?_
              refine sv (yMove rfl) ?_
              refine sv (Y.to (ySub rfl rfl ⟨by omega, by omega⟩) (congrArg _ (read_lo hds))) ?_
              refine sv (yMax rfl rfl) ?_
              refine sv (fa38_0 h8) ?_
              refine sst hS rfl rfl Try.sizeOf3 rfl rfl rfl rfl ?_; clear hS; intro w hS
              refine nil ?_
              show Code.wp _ _ _ _ _
              refine region ?_
              refine sv (fa38_1 h8) ?_
              refine sv (yLdB rfl Try.isAgg3 (hS.at _) rfl) ?_
              refine sv (fa103_1 rfl) ?_
              refine sv (yLdB rfl Try.isAgg3 (hS.at _) rfl) ?_
              refine sv (fa34_1 h3) ?_
              refine sv (yLdB rfl Try.isAgg3 (hS.at _) rfl) ?_
              refine sv (yAdd rfl rfl ⟨by omega, by omega⟩) ?_
              refine sv (fa38_0 rfl) ?_
              refine sv (yLdB rfl Try.isAgg3 (hS.at _) rfl) ?_
              refine sv (ySub rfl rfl ⟨by omega, by omega⟩) ?_
              refine sv (yMove rfl) ?_
              refine sv (Y.to (yAdd rfl rfl ⟨by omega, by omega⟩) (congrArg _ (read_hi hds))) ?_
              refine sv (yMin rfl rfl) ?_
              refine sv (fa38_1 h8) ?_
              refine sst hS rfl rfl Try.sizeOf3 rfl rfl rfl rfl ?_; clear hS; intro w hS
              refine nil ?_
              show Code.wp _ _ _ _ _
              refine region ?_
              refine sv (yMove h10) ?_
              refine sv (yAdd rfl rfl ⟨by omega, by omega⟩) ?_
              refine sv (yAsg rfl) ?_
              refine nil ?_
              exact ⟨_, _, rfl, ⟨k + 1, true, h1, h2, h3, h6, h8, rfl, rfl, (by rw [known_snoc_in hx (by omega), cuts_snoc]; exact hS.sub (.cons _ (.cons _ (List.Sublist.refl _)))), (by omega), (by rw [known_snoc_in hx (by omega)]; simp), rfl⟩, by omega⟩
          ·
            refine ⟨_, rfl, ?_⟩
            refine salloc hS Try.zeroValue38 rfl ?_; clear hS; intro b12 w hS
            refine nil ?_
            refine ⟨fun _ => hS.sub (.cons _ (List.Sublist.refl _)), ?_⟩
            show wpA _ _ _ _ _ _ _ _ _ _
            refine a_step (i := 6) (is := []) (by kernel_rfl) ⟨?_, trivial⟩
            refine ⟨_, rfl, ?_⟩
            refine sv (fa78_1 rfl) ?_
            refine nil ?_
            refine ⟨fun _ => hS.sub (.cons _ (List.Sublist.refl _)), ?_⟩
            show wpA _ _ _ _ _ _ _ _ _ _
            refine a_step (i := 7) (is := []) (by kernel_rfl) ⟨?_, trivial⟩
            refine ⟨_, rfl, ?_⟩
            refine sv (yLdA rfl Try.isAgg38 Try.sizeOf38 ((hcs1.mid (xs := spanC d.shift) 1 rfl).ext hS.ext) rfl) ?_
            refine nil ?_
            refine ⟨fun _ => hS.sub (.cons _ (List.Sublist.refl _)), ?_⟩
            show wpA _ _ _ _ _ _ _ _ _ _
            refine a_step (i := 9) (is := []) (by kernel_rfl) ⟨?_, trivial⟩
            refine ⟨_, rfl, ?_⟩
            refine sst hS rfl rfl Try.sizeOf38 rfl rfl rfl rfl ?_; clear hS; intro w hS
            refine nil ?_
            refine ⟨fun h => absurd h (by decide), ?_⟩
            show wpA _ _ _ _ _ _ _ _ _ _
            refine a_end (by kernel_rfl) ?_
            show Code.wp _ _ _ _ _
            refine seq ?_
            refine region ?_
            refine sv (fa34_2 h3) ?_
            refine sv (yLdB rfl Try.isAgg3 (hS.at _) rfl) ?_
            refine sv (yMove h1) ?_
            refine sv (fa103_0 rfl) ?_
            refine sv (yLdB rfl Try.isAgg3 (hS.at _) rfl) ?_
            refine sv (ySub rfl rfl ⟨by omega, by omega⟩) ?_
            refine sv (fa103_0 rfl) ?_
            refine sv (yLdB rfl Try.isAgg3 (hS.at _) rfl) ?_
            refine sv (yMove h1) ?_
            refine sv (ySub rfl rfl ⟨by omega, by omega⟩) ?_
            refine sv (yMax rfl rfl) ?_
            refine sv (yMul rfl rfl ⟨by omega, by omega⟩) ?_
            refine sv (yAsg rfl) ?_
            refine nil ?_
            show Code.wp _ _ _ _ _
            refine seq ?_
            refine region ?_
            refine sv (fa38_0 h8) ?_
            refine sv (yLdB rfl Try.isAgg3 (hS.at _) rfl) ?_
            refine sv (fa103_1 rfl) ?_
            refine sv (yLdB rfl Try.isAgg3 (hS.at _) rfl) ?_
            refine sv (fa34_1 h3) ?_
            refine sv (yLdB rfl Try.isAgg3 (hS.at _) rfl) ?_
            refine sv (ySub rfl rfl ⟨by omega, by omega⟩) ?_
            refine sv (fa38_1 rfl) ?_
            refine sv (yLdB rfl Try.isAgg3 (hS.at _) rfl) ?_
            refine sv (ySub rfl rfl ⟨by omega, by omega⟩) ?_
            refine sv (yMove rfl) ?_
            refine sv (Y.to (ySub rfl rfl ⟨by omega, by omega⟩) (congrArg _ (read_lo hds))) ?_
            refine sv (yMax rfl rfl) ?_
            refine sv (fa38_0 h8) ?_
            refine sst hS rfl rfl Try.sizeOf3 rfl rfl rfl rfl ?_; clear hS; intro w hS
            refine nil ?_
            show Code.wp _ _ _ _ _
            refine region ?_
            refine sv (fa38_1 h8) ?_
            refine sv (yLdB rfl Try.isAgg3 (hS.at _) rfl) ?_
            refine sv (fa103_1 rfl) ?_
            refine sv (yLdB rfl Try.isAgg3 (hS.at _) rfl) ?_
            refine sv (fa34_1 h3) ?_
            refine sv (yLdB rfl Try.isAgg3 (hS.at _) rfl) ?_
            refine sv (yAdd rfl rfl ⟨by omega, by omega⟩) ?_
            refine sv (fa38_0 rfl) ?_
            refine sv (yLdB rfl Try.isAgg3 (hS.at _) rfl) ?_
            refine sv (ySub rfl rfl ⟨by omega, by omega⟩) ?_
            refine sv (yMove rfl) ?_
            refine sv (Y.to (yAdd rfl rfl ⟨by omega, by omega⟩) (congrArg _ (read_hi hds))) ?_
            refine sv (yMin rfl rfl) ?_
            refine sv (fa38_1 h8) ?_
            refine sst hS rfl rfl Try.sizeOf3 rfl rfl rfl rfl ?_; clear hS; intro w hS
            refine nil ?_
            show Code.wp _ _ _ _ _
            refine region ?_
            refine sv (yMove h10) ?_
            refine sv (yAdd rfl rfl ⟨by omega, by omega⟩) ?_
            refine sv (yAsg rfl) ?_
            refine nil ?_
            exact ⟨_, _, rfl, ⟨k + 1, true, h1, h2, h3, h6, h8, rfl, rfl, (by rw [known_snoc_in hx (by omega), cuts_snoc]; exact hS.sub (.cons _ (.cons _ (List.Sublist.refl _)))), (by omega), (by rw [known_snoc_in hx (by omega)]; simp), rfl⟩, by omega⟩
        ·
          refine ⟨_, rfl, ?_⟩
          refine salloc hS Try.zeroValue38 rfl ?_; clear hS; intro b12 w hS
          refine nil ?_
          refine ⟨fun _ => hS.sub (.cons _ (List.Sublist.refl _)), ?_⟩
          show wpA _ _ _ _ _ _ _ _ _ _
          refine a_step (i := 5) (is := []) (by kernel_rfl) ⟨?_, trivial⟩
          refine ⟨_, rfl, ?_⟩
          refine sv (yIxa rfl ha1 rfl Try.runUnderlying31 Try.sizeOf78 (by omega) (by omega)) ?_
          refine nil ?_
          refine ⟨fun _ => hS.sub (.cons _ (List.Sublist.refl _)), ?_⟩
          show wpA _ _ _ _ _ _ _ _ _ _
          refine a_step (i := 6) (is := []) (by kernel_rfl) ⟨?_, trivial⟩
          refine ⟨_, rfl, ?_⟩
          refine sv (fa78_1 rfl) ?_
          refine nil ?_
          refine ⟨fun _ => hS.sub (.cons _ (List.Sublist.refl _)), ?_⟩
          show wpA _ _ _ _ _ _ _ _ _ _
          refine a_step (i := 7) (is := []) (by kernel_rfl) ⟨?_, trivial⟩
          refine ⟨_, rfl, ?_⟩
          refine sv (yLdA rfl Try.isAgg38 Try.sizeOf38 ((hcs1.mid (xs := spanC d.shift) 1 rfl).ext hS.ext) rfl) ?_
          refine nil ?_
          refine ⟨fun _ => hS.sub (.cons _ (List.Sublist.refl _)), ?_⟩
          show wpA _ _ _ _ _ _ _ _ _ _
          refine a_step (i := 9) (is := []) (by kernel_rfl) ⟨?_, trivial⟩
          refine ⟨_, rfl, ?_⟩
          refine sst hS rfl rfl Try.sizeOf38 rfl rfl rfl rfl ?_; clear hS; intro w hS
          refine nil ?_
          refine ⟨fun h => absurd h (by decide), ?_⟩
          show wpA _ _ _ _ _ _ _ _ _ _
          refine a_end (by kernel_rfl) ?_
          show Code.wp _ _ _ _ _
          refine seq ?_
          refine region ?_
          refine sv (fa34_2 h3) ?_
          refine sv (yLdB rfl Try.isAgg3 (hS.at _) rfl) ?_
          refine sv (yMove h1) ?_
          refine sv (fa103_0 rfl) ?_
          refine sv (yLdB rfl Try.isAgg3 (hS.at _) rfl) ?_
          refine sv (ySub rfl rfl ⟨by omega, by omega⟩) ?_
          refine sv (fa103_0 rfl) ?_
          refine sv (yLdB rfl Try.isAgg3 (hS.at _) rfl) ?_
          refine sv (yMove h1) ?_
          refine sv (ySub rfl rfl ⟨by omega, by omega⟩) ?_
          refine sv (yMax rfl rfl) ?_
          refine sv (yMul rfl rfl ⟨by omega, by omega⟩) ?_
          refine sv (yAsg rfl) ?_
          refine nil ?_
          show Code.wp _ _ _ _ _
          refine seq ?_
          refine region ?_
          refine sv (fa38_0 h8) ?_
          refine sv (yLdB rfl Try.isAgg3 (hS.at _) rfl) ?_
          refine sv (fa103_1 rfl) ?_
          refine sv (yLdB rfl Try.isAgg3 (hS.at _) rfl) ?_
          refine sv (fa34_1 h3) ?_
          refine sv (yLdB rfl Try.isAgg3 (hS.at _) rfl) ?_
          refine sv (ySub rfl rfl ⟨by omega, by omega⟩) ?_
          refine sv (fa38_1 rfl) ?_
          refine sv (yLdB rfl Try.isAgg3 (hS.at _) rfl) ?_
          refine sv (ySub rfl rfl ⟨by omega, by omega⟩) ?_
          refine sv (yMove rfl) ?_
          refine sv (Y.to (ySub rfl rfl ⟨by omega, by omega⟩) (congrArg _ (read_lo hds))) ?_
          refine sv (yMax rfl rfl) ?_
          refine sv (fa38_0 h8) ?_
          refine sst hS rfl rfl Try.sizeOf3 rfl rfl rfl rfl ?_; clear hS; intro w hS
          refine nil ?_
          show Code.wp _ _ _ _ _
          refine region ?_
          refine sv (fa38_1 h8) ?_
          refine sv (yLdB rfl Try.isAgg3 (hS.at _) rfl) ?_
          refine sv (fa103_1 rfl) ?_
          refine sv (yLdB rfl Try.isAgg3 (hS.at _) rfl) ?_
          refine sv (fa34_1 h3) ?_
          refine sv (yLdB rfl Try.isAgg3 (hS.at _) rfl) ?_
          refine sv (yAdd rfl rfl ⟨by omega, by omega⟩) ?_
          refine sv (fa38_0 rfl) ?_
          refine sv (yLdB rfl Try.isAgg3 (hS.at _) rfl) ?_
          refine sv (ySub rfl rfl ⟨by omega, by omega⟩) ?_
          refine sv (yMove rfl) ?_
          refine sv (Y.to (yAdd rfl rfl ⟨by omega, by omega⟩) (congrArg _ (read_hi hds))) ?_
          refine sv (yMin rfl rfl) ?_
          refine sv (fa38_1 h8) ?_
          refine sst hS rfl rfl Try.sizeOf3 rfl rfl rfl rfl ?_; clear hS; intro w hS
          refine nil ?_
          show Code.wp _ _ _ _ _
          refine region ?_
          refine sv (yMove h10) ?_
          refine sv (yAdd rfl rfl ⟨by omega, by omega⟩) ?_
          refine sv (yAsg rfl) ?_
          refine nil ?_
          exact ⟨_, _, rfl, ⟨k + 1, true, h1, h2, h3, h6, h8, rfl, rfl, (by rw [known_snoc_in hx (by omega), cuts_snoc]; exact hS.sub (.cons _ (.cons _ (List.Sublist.refl _)))), (by omega), (by rw [known_snoc_in hx (by omega)]; simp), rfl⟩, by omega⟩
      ·
        refine ⟨_, rfl, ?_⟩
        refine salloc hS Try.zeroValue38 rfl ?_; clear hS; intro b12 w hS
        refine nil ?_
        refine ⟨fun _ => hS.sub (.cons _ (List.Sublist.refl _)), ?_⟩
        show wpA _ _ _ _ _ _ _ _ _ _
        refine a_step (i := 4) (is := []) (by kernel_rfl) ⟨?_, trivial⟩
        refine ⟨_, rfl, ?_⟩
        refine scall Try.call100 (.cons rfl (.cons rfl .nil)) (c_rdatum (r := r) (hg.ext hS.ext) hok hro.tick.1) ?_
        rintro _ w ⟨rfl, hE⟩; replace hS := hS.step hE; clear hE
        refine nil ?_
        refine ⟨fun _ => hS.sub (.cons _ (List.Sublist.refl _)), ?_⟩
        show wpA _ _ _ _ _ _ _ _ _ _
        refine a_step (i := 5) (is := []) (by kernel_rfl) ⟨?_, trivial⟩
        refine ⟨_, rfl, ?_⟩
        refine sv (yIxa rfl ha1 rfl Try.runUnderlying31 Try.sizeOf78 (by omega) (by omega)) ?_
        refine nil ?_
        refine ⟨fun _ => hS.sub (.cons _ (List.Sublist.refl _)), ?_⟩
        show wpA _ _ _ _ _ _ _ _ _ _
        refine a_step (i := 6) (is := []) (by kernel_rfl) ⟨?_, trivial⟩
        refine ⟨_, rfl, ?_⟩
        refine sv (fa78_1 rfl) ?_
        refine nil ?_
        refine ⟨fun _ => hS.sub (.cons _ (List.Sublist.refl _)), ?_⟩
        show wpA _ _ _ _ _ _ _ _ _ _
        refine a_step (i := 7) (is := []) (by kernel_rfl) ⟨?_, trivial⟩
        refine ⟨_, rfl, ?_⟩
        refine sv (yLdA rfl Try.isAgg38 Try.sizeOf38 ((hcs1.mid (xs := spanC d.shift) 1 rfl).ext hS.ext) rfl) ?_
        refine nil ?_
        refine ⟨fun _ => hS.sub (.cons _ (List.Sublist.refl _)), ?_⟩
        show wpA _ _ _ _ _ _ _ _ _ _
        refine a_step (i := 9) (is := []) (by kernel_rfl) ⟨?_, trivial⟩
        refine ⟨_, rfl, ?_⟩
        refine sst hS rfl rfl Try.sizeOf38 rfl rfl rfl rfl ?_; clear hS; intro w hS
        refine nil ?_
        refine ⟨fun h => absurd h (by decide), ?_⟩
        show wpA _ _ _ _ _ _ _ _ _ _
        refine a_end (by kernel_rfl) ?_
        show Code.wp _ _ _ _ _
        refine seq ?_
        refine region ?_
        refine sv (fa34_2 h3) ?_
        refine sv (yLdB rfl Try.isAgg3 (hS.at _) rfl) ?_
        refine sv (yMove h1) ?_
        refine sv (fa103_0 rfl) ?_
        refine sv (yLdB rfl Try.isAgg3 (hS.at _) rfl) ?_
        refine sv (ySub rfl rfl ⟨by omega, by omega⟩) ?_
        refine sv (fa103_0 rfl) ?_
        refine sv (yLdB rfl Try.isAgg3 (hS.at _) rfl) ?_
        refine sv (yMove h1) ?_
        refine sv (ySub rfl rfl ⟨by omega, by omega⟩) ?_
        refine sv (yMax rfl rfl) ?_
        refine sv (yMul rfl rfl ⟨by omega, by omega⟩) ?_
        refine sv (yAsg rfl) ?_
        refine nil ?_
        show Code.wp _ _ _ _ _
        refine seq ?_
        refine region ?_
        refine sv (fa38_0 h8) ?_
        refine sv (yLdB rfl Try.isAgg3 (hS.at _) rfl) ?_
        refine sv (fa103_1 rfl) ?_
        refine sv (yLdB rfl Try.isAgg3 (hS.at _) rfl) ?_
        refine sv (fa34_1 h3) ?_
        refine sv (yLdB rfl Try.isAgg3 (hS.at _) rfl) ?_
        refine sv (ySub rfl rfl ⟨by omega, by omega⟩) ?_
        refine sv (fa38_1 rfl) ?_
        refine sv (yLdB rfl Try.isAgg3 (hS.at _) rfl) ?_
        refine sv (ySub rfl rfl ⟨by omega, by omega⟩) ?_
        refine sv (yMove rfl) ?_
        refine sv (Y.to (ySub rfl rfl ⟨by omega, by omega⟩) (congrArg _ (read_lo hds))) ?_
        refine sv (yMax rfl rfl) ?_
        refine sv (fa38_0 h8) ?_
        refine sst hS rfl rfl Try.sizeOf3 rfl rfl rfl rfl ?_; clear hS; intro w hS
        refine nil ?_
        show Code.wp _ _ _ _ _
        refine region ?_
        refine sv (fa38_1 h8) ?_
        refine sv (yLdB rfl Try.isAgg3 (hS.at _) rfl) ?_
        refine sv (fa103_1 rfl) ?_
        refine sv (yLdB rfl Try.isAgg3 (hS.at _) rfl) ?_
        refine sv (fa34_1 h3) ?_
        refine sv (yLdB rfl Try.isAgg3 (hS.at _) rfl) ?_
        refine sv (yAdd rfl rfl ⟨by omega, by omega⟩) ?_
        refine sv (fa38_0 rfl) ?_
        refine sv (yLdB rfl Try.isAgg3 (hS.at _) rfl) ?_
        refine sv (ySub rfl rfl ⟨by omega, by omega⟩) ?_
        refine sv (yMove rfl) ?_
        refine sv (Y.to (yAdd rfl rfl ⟨by omega, by omega⟩) (congrArg _ (read_hi hds))) ?_
        refine sv (yMin rfl rfl) ?_
        refine sv (fa38_1 h8) ?_
        refine sst hS rfl rfl Try.sizeOf3 rfl rfl rfl rfl ?_; clear hS; intro w hS
        refine nil ?_
        show Code.wp _ _ _ _ _
        refine region ?_
        refine sv (yMove h10) ?_
        refine sv (yAdd rfl rfl ⟨by omega, by omega⟩) ?_
        refine sv (yAsg rfl) ?_
        refine nil ?_
        exact ⟨_, _, rfl, ⟨k + 1, true, h1, h2, h3, h6, h8, rfl, rfl, (by rw [known_snoc_in hx (by omega), cuts_snoc]; exact hS.sub (.cons _ (.cons _ (List.Sublist.refl _)))), (by omega), (by rw [known_snoc_in hx (by omega)]; simp), rfl⟩, by omega⟩
  ·
    simp only [Bool.and_eq_true, Bool.or_eq_true, Bool.and_eq_false_iff, Bool.or_eq_false_iff, decide_eq_true_eq, decide_eq_false_iff_not, Bool.not_eq_true, Bool.not_eq_false, Bool.not_not, Bool.not_eq_eq_eq_not, Bool.not_true, Bool.not_false, Bool.false_eq_true, Bool.true_eq_false, ne_eq, Decidable.not_not, not_false_eq_true, not_true_eq_false] at c19
    obtain rfl : k = g.readings.length := by omega
    rw [List.take_length] at hA hS
    refine exit ?_
    show Code.wp _ _ _ _ _
    refine seq ?_
    refine seq ?_
    refine region ?_
    refine sv (yMove h9) ?_
    refine sv (yNot rfl) ?_
    refine nil ?_
    show Code.wp _ _ _ _ _
    refine cond rfl (fun c80 => ?_) (fun c80 => ?_)
    ·
      rw [hA] at c80
      simp only [Bool.and_eq_true, Bool.or_eq_true, Bool.and_eq_false_iff, Bool.or_eq_false_iff, decide_eq_true_eq, decide_eq_false_iff_not, Bool.not_eq_true, Bool.not_eq_false, Bool.not_not, Bool.not_eq_eq_eq_not, Bool.not_true, Bool.not_false, Bool.false_eq_true, Bool.true_eq_false, ne_eq, Decidable.not_not, not_false_eq_true, not_true_eq_false] at c80
      refine seq ?_
      refine region ?_
      refine sv (yBuild Try.zeroValue38 rfl pl38 .nil rfl) ?_
      refine sst hS h6 rfl Try.sizeOf38 rfl rfl rfl rfl ?_; clear hS; intro w hS
      refine sv (yAsg rfl) ?_
      refine nil ?_
      show Code.wp _ _ _ _ _
      have hfin := saysG_none (t := t) c80
      refine wp_ret (thenR ?_)
      exact retV (resV2 rfl (rc h6 Try.isAgg38 Try.sizeOf38 (hS.at _) (by rw [hfin]; rfl) rfl) (rt (eqI (by rw [hfin])))) hS.ext
    ·
      rw [hA] at c80
      simp only [Bool.and_eq_true, Bool.or_eq_true, Bool.and_eq_false_iff, Bool.or_eq_false_iff, decide_eq_true_eq, decide_eq_false_iff_not, Bool.not_eq_true, Bool.not_eq_false, Bool.not_not, Bool.not_eq_eq_eq_not, Bool.not_true, Bool.not_false, Bool.false_eq_true, Bool.true_eq_false, ne_eq, Decidable.not_not, not_false_eq_true, not_true_eq_false] at c80
      refine skip ?_
      show Code.wp _ _ _ _ _
      refine seq ?_
      refine seq ?_
      refine region ?_
      refine sv (fa38_0 h8) ?_
      refine sv (yLdB rfl Try.isAgg3 (hS.at _) rfl) ?_
      refine sv (fa38_1 h8) ?_
      refine sv (yLdB rfl Try.isAgg3 (hS.at _) rfl) ?_
      refine sv (yGtr rfl rfl) ?_
      refine nil ?_
      show Code.wp _ _ _ _ _
      refine cond rfl (fun c86 => ?_) (fun c86 => ?_)
      ·
        simp only [Bool.and_eq_true, Bool.or_eq_true, Bool.and_eq_false_iff, Bool.or_eq_false_iff, decide_eq_true_eq, decide_eq_false_iff_not, Bool.not_eq_true, Bool.not_eq_false, Bool.not_not, Bool.not_eq_eq_eq_not, Bool.not_true, Bool.not_false, Bool.false_eq_true, Bool.true_eq_false, ne_eq, Decidable.not_not, not_false_eq_true, not_true_eq_false] at c86
        refine seq ?_
        refine region ?_
        refine sv (yBuild Try.zeroValue38 rfl pl38 .nil rfl) ?_
        refine sst hS h6 rfl Try.sizeOf38 rfl rfl rfl rfl ?_; clear hS; intro w hS
        refine sv (yAsg rfl) ?_
        refine nil ?_
        show Code.wp _ _ _ _ _
        have hfin := saysG_down (t := t) rfl c80 c86
        refine wp_ret (thenR ?_)
        exact retV (resV2 rfl (rc h6 Try.isAgg38 Try.sizeOf38 (hS.at _) (by rw [hfin]; rfl) rfl) (rt (eqI (by rw [hfin])))) hS.ext
      ·
        simp only [Bool.and_eq_true, Bool.or_eq_true, Bool.and_eq_false_iff, Bool.or_eq_false_iff, decide_eq_true_eq, decide_eq_false_iff_not, Bool.not_eq_true, Bool.not_eq_false, Bool.not_not, Bool.not_eq_eq_eq_not, Bool.not_true, Bool.not_false, Bool.false_eq_true, Bool.true_eq_false, ne_eq, Decidable.not_not, not_false_eq_true, not_true_eq_false] at c86
        refine skip ?_
        show Code.wp _ _ _ _ _
        refine seq ?_
        refine region ?_
        refine sv (yLdBA h8 Try.isAgg38 Try.sizeOf38 (hS.at _) rfl rfl) ?_
        refine sst hS h6 rfl Try.sizeOf38 rfl rfl rfl rfl ?_; clear hS; intro w hS
        refine sv (yAsg rfl) ?_
        refine nil ?_
        show Code.wp _ _ _ _ _
        have hfin := saysG_ok (t := t) rfl c80 c86
        refine wp_ret ?_
        exact retV (resV2 rfl (rc h6 Try.isAgg38 Try.sizeOf38 (hS.at _) (by rw [hfin]; rfl) rfl) (rt (eqI (by rw [hfin])))) hS.ext
set_option maxHeartbeats 1000000 in
/-- barrage/barrageref01.Says -/
theorem c_rSays {g : Gauge} {cs : List Value} {t now : Int} {w0 : World} (hg : RGauge w0 cs g) : CV Try.prog 27 #[.agg cs.toArray, .int .i64 t, .int .i64 now] w0 (.tuple #[.agg (spanC (saysF g t now).1).toArray, .int .i64 (saysF g t now).2]) := by
  obtain ⟨dv, rv, rfl, hnm, hge, hgr, hsd, hsr⟩ := id hg
  obtain ⟨a, cap, rfl, hcap, hmx, hel⟩ := id hsd
  obtain ⟨a2, cap2, rfl, hcap2, hmx2, hel2⟩ := id hsr
  refine enter Try.func27 rfl Try.ntmps27 rfl ?_
  have hS := St.start w0
  refine seq ?_
  refine region ?_
  refine sbox hS rfl rfl ?_; clear hS; intro b3 w hS
  refine salloc hS Try.zeroValue38 rfl ?_; clear hS; intro b6 w hS
  refine sv (yAsg rfl) ?_
  refine nil ?_
  show Code.wp _ _ _ _ _
  refine seq ?_
  refine region ?_
  refine sv (yLdBA rfl Try.isAgg34 Try.sizeOf34 (hS.at _) rfl rfl) ?_
  refine scall Try.call25 (.cons rfl .nil) (c_rCheckGauge (hg.ext hS.ext)) ?_
  rintro _ w ⟨rfl, hE⟩; replace hS := hS.step hE; clear hE
  refine sv (yMove rfl) ?_
  refine sv (yExt rfl rfl) ?_
  refine sv (yExt rfl rfl) ?_
  refine sv (yExt rfl rfl) ?_
  refine sv (yAsg rfl) ?_
  refine sv (yAsg rfl) ?_
  refine sv (yAsg rfl) ?_
  refine nil ?_
  show Code.wp _ _ _ _ _
  refine seq ?_
  refine seq ?_
  refine region ?_
  refine sv (yMove rfl) ?_
  refine sv (yEql rfl rfl) ?_
  refine sv (yMove rfl) ?_
  refine sg rfl rfl rfl (fun g => (yMove rfl)) (fun v20 g20 => ?_)
  refine sgc hS rfl rfl rfl Try.call67 (fun g => (.cons (g20.1 g) .nil)) (fun g => c_tick) ?_; clear hS; intro v21 w hS g21
  refine sg rfl rfl rfl (fun g => (yNot (g21.1 g))) (fun v22 g22 => ?_)
  refine sg rfl rfl rfl (fun g => (yMove (g22.1 g))) (fun v23 g23 => ?_)
  refine sgg rfl rfl g23 (fun g => (yMove rfl)) (fun v24 g24 => ?_)
  refine sggc hS rfl rfl g23 Try.call67 (fun g => (.cons (g24.1 g) .nil)) (fun g => c_tick) ?_; clear hS; intro v25 w hS g25
  refine sgg rfl rfl g23 (fun g => (yNot (g25.1 g))) (fun v26 g26 => ?_)
  refine sg rfl rfl rfl (fun g => (yOr (g23.1 g) rfl (fun hB => (g26.1 ⟨g, hB⟩)))) (fun v27 g27 => ?_)
  refine sv (yAnd rfl (fun hB => (g27.1 hB)) rfl) ?_
  refine nil ?_
  show Code.wp _ _ _ _ _
  refine cond rfl (fun c28 => ?_) (fun c28 => ?_)
  ·
    simp only [Bool.and_eq_true, Bool.or_eq_true, Bool.and_eq_false_iff, Bool.or_eq_false_iff, decide_eq_true_eq, decide_eq_false_iff_not, Bool.not_eq_true, Bool.not_eq_false, Bool.not_not, Bool.not_eq_eq_eq_not, Bool.not_true, Bool.not_false, Bool.false_eq_true, Bool.true_eq_false, ne_eq, Decidable.not_not, not_false_eq_true, not_true_eq_false, ← outB_inB] at c28
    have hE : saysE g t now = 7 := saysE_bad c28.1 c28.2
    refine region ?_
    refine sv (yAsg rfl) ?_
    refine nil ?_
    show Code.wp _ _ _ _ _
    refine seq ?_
    refine seq ?_
    refine region ?_
    refine sv (yMove rfl) ?_
    refine sv (yNeq rfl rfl) ?_
    refine nil ?_
    show Code.wp _ _ _ _ _
    refine cond rfl (fun c30 => ?_) (fun c30 => ?_)
    ·
      simp only [Bool.and_eq_true, Bool.or_eq_true, Bool.and_eq_false_iff, Bool.or_eq_false_iff, decide_eq_true_eq, decide_eq_false_iff_not, Bool.not_eq_true, Bool.not_eq_false, Bool.not_not, Bool.not_eq_eq_eq_not, Bool.not_true, Bool.not_false, Bool.false_eq_true, Bool.true_eq_false, ne_eq, Decidable.not_not, not_false_eq_true, not_true_eq_false] at c30
      refine seq ?_
      refine region ?_
      refine sv (yBuild Try.zeroValue38 rfl pl38 .nil rfl) ?_
      refine sv (yMove rfl) ?_
      refine sst hS rfl rfl Try.sizeOf38 rfl rfl rfl rfl ?_; clear hS; intro w hS
      refine sv (yAsg rfl) ?_
      refine nil ?_
      show Code.wp _ _ _ _ _
      have hfin : saysF g t now = (⟨0, 0⟩, saysE g t now) := by unfold saysF; rw [if_pos (by rw [hE]; decide)]
      refine wp_ret (thenR ?_)
      exact retV (resV2 rfl (rc rfl Try.isAgg38 Try.sizeOf38 (hS.at _) (by rw [hfin]; rfl) rfl) (rt (eqI (by rw [hfin]; first | rfl | exact hE)))) hS.ext
    ·
      simp only [Bool.and_eq_true, Bool.or_eq_true, Bool.and_eq_false_iff, Bool.or_eq_false_iff, decide_eq_true_eq, decide_eq_false_iff_not, Bool.not_eq_true, Bool.not_eq_false, Bool.not_not, Bool.not_eq_eq_eq_not, Bool.not_true, Bool.not_false, Bool.false_eq_true, Bool.true_eq_false, ne_eq, Decidable.not_not, not_false_eq_true, not_true_eq_false] at c30
      exact absurd c30 (by decide)
  ·
    simp only [Bool.and_eq_true, Bool.or_eq_true, Bool.and_eq_false_iff, Bool.or_eq_false_iff, decide_eq_true_eq, decide_eq_false_iff_not, Bool.not_eq_true, Bool.not_eq_false, Bool.not_not, Bool.not_eq_eq_eq_not, Bool.not_true, Bool.not_false, Bool.false_eq_true, Bool.true_eq_false, ne_eq, Decidable.not_not, not_false_eq_true, not_true_eq_false, ← outB_inB] at c28
    have hE : saysE g t now = (checkG g).2.2 := saysE_good c28
    refine skip ?_
    show Code.wp _ _ _ _ _
    refine seq ?_
    refine seq ?_
    refine region ?_
    refine sv (yMove rfl) ?_
    refine sv (yNeq rfl rfl) ?_
    refine nil ?_
    show Code.wp _ _ _ _ _
    refine cond rfl (fun c30 => ?_) (fun c30 => ?_)
    ·
      simp only [Bool.and_eq_true, Bool.or_eq_true, Bool.and_eq_false_iff, Bool.or_eq_false_iff, decide_eq_true_eq, decide_eq_false_iff_not, Bool.not_eq_true, Bool.not_eq_false, Bool.not_not, Bool.not_eq_eq_eq_not, Bool.not_true, Bool.not_false, Bool.false_eq_true, Bool.true_eq_false, ne_eq, Decidable.not_not, not_false_eq_true, not_true_eq_false] at c30
      refine seq ?_
      refine region ?_
      refine sv (yBuild Try.zeroValue38 rfl pl38 .nil rfl) ?_
      refine sv (yMove rfl) ?_
      refine sst hS rfl rfl Try.sizeOf38 rfl rfl rfl rfl ?_; clear hS; intro w hS
      refine sv (yAsg rfl) ?_
      refine nil ?_
      show Code.wp _ _ _ _ _
      have hfin : saysF g t now = (⟨0, 0⟩, saysE g t now) := by unfold saysF; rw [if_pos (by rw [hE]; exact c30)]
      refine wp_ret (thenR ?_)
      exact retV (resV2 rfl (rc rfl Try.isAgg38 Try.sizeOf38 (hS.at _) (by rw [hfin]; rfl) rfl) (rt (eqI (by rw [hfin]; first | rfl | exact hE)))) hS.ext
    ·
      simp only [Bool.and_eq_true, Bool.or_eq_true, Bool.and_eq_false_iff, Bool.or_eq_false_iff, decide_eq_true_eq, decide_eq_false_iff_not, Bool.not_eq_true, Bool.not_eq_false, Bool.not_not, Bool.not_eq_eq_eq_not, Bool.not_true, Bool.not_false, Bool.false_eq_true, Bool.true_eq_false, ne_eq, Decidable.not_not, not_false_eq_true, not_true_eq_false] at c30
      have hE0 : saysE g t now = 0 := by rw [hE, c30]
      obtain ⟨hok, htb, hnb⟩ := saysE_ok hE0
      have hfin : saysF g t now = saysG g t now := by unfold saysF; rw [if_neg (fun h => h hE0)]
      refine skip ?_
      show Code.wp _ _ _ _ _
      refine seq ?_
      refine region ?_
      refine sv (yLdBA rfl Try.isAgg34 Try.sizeOf34 (hS.at _) rfl rfl) ?_
      refine sv (yMove rfl) ?_
      refine sv (yMove rfl) ?_
      refine scall Try.call70 (.cons rfl (.cons rfl (.cons rfl .nil))) (c_rsays (hg.ext hS.ext) hok htb) ?_
      rintro _ w ⟨rfl, hE⟩; replace hS := hS.step hE; clear hE
      refine sv (yExt rfl rfl) ?_
      refine sv (yExt rfl rfl) ?_
      refine sst hS rfl rfl Try.sizeOf38 rfl rfl rfl rfl ?_; clear hS; intro w hS
      refine sv (yAsg rfl) ?_
      refine nil ?_
      show Code.wp _ _ _ _ _
      refine wp_ret ?_
      exact retV (resV2 rfl (rc rfl Try.isAgg38 Try.sizeOf38 (hS.at _) (by rw [hfin]; rfl) rfl) (rt (eqI (by rw [hfin])))) hS.ext
end Go.Proofs.Ytpgmehignepidaa
