/- Walks, part Wk6. -/
import Derived.Test.YtpgmehignepidaaWk5
import Derived.Test.YtpgmehignepidaaP6
set_option linter.all false
namespace Go.Proofs.Ytpgmehignepidaa
open Go Bx
set_option maxHeartbeats 1000000 in
/-- barrage/tide.Says -/
theorem c_Says {g : Gauge} {cs : List Value} {t now : Int} {w0 : World} (hg : RGauge w0 cs g) (ht : I64 t) (hn : I64 now) : CV Try.prog 26 #[.agg cs.toArray, .int .i64 t, .int .i64 now] w0 (.tuple #[.agg (spanC (saysF g t now).1).toArray, .int .i64 (saysF g t now).2]) := by
  obtain ⟨dv, rv, rfl, hnm, hge, hgr, hsd, hsr⟩ := id hg
  obtain ⟨a, cap, rfl, hcap, hmx, hel⟩ := id hsd
  obtain ⟨a2, cap2, rfl, hcap2, hmx2, hel2⟩ := id hsr
  refine enter Try.func26 rfl Try.ntmps26 rfl ?_
  have hS := St.start w0
  refine seq ?_
  refine region ?_
  refine sbox hS rfl rfl ?_; clear hS; intro b3 w hS
  refine salloc hS Try.zeroValue38 rfl ?_; clear hS; intro b6 w hS
  refine sv (yAsg rfl) ?_
  refine nil ?_
  show Code.wp _ _ _ _ _
  refine seq ?_
  refine region ?_
  refine sv (yLdBA rfl Try.isAgg34 Try.sizeOf34 (hS.at _) rfl rfl) ?_
  refine scall Try.call24 (.cons rfl .nil) (c_CheckGauge (hg.ext hS.ext)) ?_
  rintro _ w ⟨rfl, hE⟩; replace hS := hS.step hE; clear hE
  refine sv (yMove rfl) ?_
  refine sv (yExt rfl rfl) ?_
  refine sv (yExt rfl rfl) ?_
  refine sv (yExt rfl rfl) ?_
  refine sv (yAsg rfl) ?_
  refine sv (yAsg rfl) ?_
  refine sv (yAsg rfl) ?_
  refine nil ?_
  show Code.wp _ _ _ _ _
  refine seq ?_
  refine seq ?_
  refine region ?_
  refine sv (yMove rfl) ?_
  refine sv (yEql rfl rfl) ?_
  refine nil ?_
  show Code.wp _ _ _ _ _
  refine cond rfl (fun c18 => ?_) (fun c18 => ?_)
  ·
    simp only [Bool.and_eq_true, Bool.or_eq_true, Bool.and_eq_false_iff, Bool.or_eq_false_iff, decide_eq_true_eq, decide_eq_false_iff_not, Bool.not_eq_true, Bool.not_eq_false, Bool.not_not, Bool.not_eq_eq_eq_not, Bool.not_true, Bool.not_false, Bool.false_eq_true, Bool.true_eq_false, ne_eq, Decidable.not_not, not_false_eq_true, not_true_eq_false] at c18
    have hE : saysE g t now = ticksE [t, now] := by unfold saysE; rw [if_pos c18]
    refine region ?_
    refine sv (yMove rfl) ?_
    refine sv (yMove rfl) ?_
    refine sbslice hS Try.underlying44 Try.sizeOf3 rfl Try.zeroValue3 rfl (.cons rfl rfl (.cons rfl rfl .nil)) rfl ?_; clear hS; intro b21 w hS
    refine scall Try.call68 (.cons rfl .nil) (c_ticks (l := [t, now]) (ints_sl (l := [t, now]) (hS.at b21) (by simp; exact ⟨ht, hn⟩) (Nat.le_of_ble_eq_true rfl))) ?_
    rintro _ w ⟨rfl, hE⟩; replace hS := hS.step hE; clear hE
    refine sv (yAsg rfl) ?_
    refine nil ?_
    show Code.wp _ _ _ _ _
    refine seq ?_
    refine seq ?_
    refine region ?_
    refine sv (yMove rfl) ?_
    refine sv (yNeq rfl rfl) ?_
    refine nil ?_
    show Code.wp _ _ _ _ _
    refine cond rfl (fun c24 => ?_) (fun c24 => ?_)
    ·
      simp only [Bool.and_eq_true, Bool.or_eq_true, Bool.and_eq_false_iff, Bool.or_eq_false_iff, decide_eq_true_eq, decide_eq_false_iff_not, Bool.not_eq_true, Bool.not_eq_false, Bool.not_not, Bool.not_eq_eq_eq_not, Bool.not_true, Bool.not_false, Bool.false_eq_true, Bool.true_eq_false, ne_eq, Decidable.not_not, not_false_eq_true, not_true_eq_false] at c24
      refine seq ?_
      refine region ?_
      refine sv (yBuild Try.zeroValue38 rfl pl38 .nil rfl) ?_
      refine sv (yMove rfl) ?_
      refine sst hS rfl rfl Try.sizeOf38 rfl rfl rfl rfl ?_; clear hS; intro w hS
      refine sv (yAsg rfl) ?_
      refine nil ?_
      show Code.wp _ _ _ _ _
      have hfin : saysF g t now = (⟨0, 0⟩, saysE g t now) := by unfold saysF; rw [if_pos (by rw [hE]; exact c24)]
      refine wp_ret (thenR ?_)
      exact retV (resV2 rfl (rc rfl Try.isAgg38 Try.sizeOf38 (hS.at _) (by rw [hfin]; rfl) rfl) (rt (eqI (by rw [hfin]; first | rfl | exact hE)))) hS.ext
    ·
      simp only [Bool.and_eq_true, Bool.or_eq_true, Bool.and_eq_false_iff, Bool.or_eq_false_iff, decide_eq_true_eq, decide_eq_false_iff_not, Bool.not_eq_true, Bool.not_eq_false, Bool.not_not, Bool.not_eq_eq_eq_not, Bool.not_true, Bool.not_false, Bool.false_eq_true, Bool.true_eq_false, ne_eq, Decidable.not_not, not_false_eq_true, not_true_eq_false] at c24
      have hE0 : saysE g t now = 0 := by rw [hE, c24]
      obtain ⟨hok, htb, hnb⟩ := saysE_ok hE0
      have hfin : saysF g t now = saysG g t now := by unfold saysF; rw [if_neg (fun h => h hE0)]
      refine skip ?_
      show Code.wp _ _ _ _ _
      refine seq ?_
      refine region ?_
      refine sv (yLdBA rfl Try.isAgg34 Try.sizeOf34 (hS.at _) rfl rfl) ?_
      refine sv (yMove rfl) ?_
      refine sv (yMove rfl) ?_
      refine scall Try.call69 (.cons rfl (.cons rfl (.cons rfl .nil))) (c_says (hg.ext hS.ext) hok htb) ?_
      rintro _ w ⟨rfl, hE⟩; replace hS := hS.step hE; clear hE
      refine sv (yExt rfl rfl) ?_
      refine sv (yExt rfl rfl) ?_
      refine sst hS rfl rfl Try.sizeOf38 rfl rfl rfl rfl ?_; clear hS; intro w hS
      refine sv (yAsg rfl) ?_
      refine nil ?_
      show Code.wp _ _ _ _ _
      refine wp_ret ?_
      exact retV (resV2 rfl (rc rfl Try.isAgg38 Try.sizeOf38 (hS.at _) (by rw [hfin]; rfl) rfl) (rt (eqI (by rw [hfin])))) hS.ext
  ·
    simp only [Bool.and_eq_true, Bool.or_eq_true, Bool.and_eq_false_iff, Bool.or_eq_false_iff, decide_eq_true_eq, decide_eq_false_iff_not, Bool.not_eq_true, Bool.not_eq_false, Bool.not_not, Bool.not_eq_eq_eq_not, Bool.not_true, Bool.not_false, Bool.false_eq_true, Bool.true_eq_false, ne_eq, Decidable.not_not, not_false_eq_true, not_true_eq_false] at c18
    have hE : saysE g t now = (checkG g).2.2 := by unfold saysE; rw [if_neg c18]
    refine skip ?_
    show Code.wp _ _ _ _ _
    refine seq ?_
    refine seq ?_
    refine region ?_
    refine sv (yMove rfl) ?_
    refine sv (yNeq rfl rfl) ?_
    refine nil ?_
    show Code.wp _ _ _ _ _
    refine cond rfl (fun c24 => ?_) (fun c24 => ?_)
    ·
      simp only [Bool.and_eq_true, Bool.or_eq_true, Bool.and_eq_false_iff, Bool.or_eq_false_iff, decide_eq_true_eq, decide_eq_false_iff_not, Bool.not_eq_true, Bool.not_eq_false, Bool.not_not, Bool.not_eq_eq_eq_not, Bool.not_true, Bool.not_false, Bool.false_eq_true, Bool.true_eq_false, ne_eq, Decidable.not_not, not_false_eq_true, not_true_eq_false] at c24
      refine seq ?_
      refine region ?_
      refine sv (yBuild Try.zeroValue38 rfl pl38 .nil rfl) ?_
      refine sv (yMove rfl) ?_
      refine sst hS rfl rfl Try.sizeOf38 rfl rfl rfl rfl ?_; clear hS; intro w hS
      refine sv (yAsg rfl) ?_
      refine nil ?_
      show Code.wp _ _ _ _ _
      have hfin : saysF g t now = (⟨0, 0⟩, saysE g t now) := by unfold saysF; rw [if_pos (by rw [hE]; exact c24)]
      refine wp_ret (thenR ?_)
      exact retV (resV2 rfl (rc rfl Try.isAgg38 Try.sizeOf38 (hS.at _) (by rw [hfin]; rfl) rfl) (rt (eqI (by rw [hfin]; first | rfl | exact hE)))) hS.ext
    ·
      simp only [Bool.and_eq_true, Bool.or_eq_true, Bool.and_eq_false_iff, Bool.or_eq_false_iff, decide_eq_true_eq, decide_eq_false_iff_not, Bool.not_eq_true, Bool.not_eq_false, Bool.not_not, Bool.not_eq_eq_eq_not, Bool.not_true, Bool.not_false, Bool.false_eq_true, Bool.true_eq_false, ne_eq, Decidable.not_not, not_false_eq_true, not_true_eq_false] at c24
      exact absurd c24 c18
set_option maxHeartbeats 2000000 in
/-- barrage/barrageref01.CheckGauge -/
theorem c_rCheckGauge {g : Gauge} {cs : List Value} {w0 : World} (hg : RGauge w0 cs g) : CV Try.prog 25 #[.agg cs.toArray] w0 (.tuple #[.int .i64 (checkG g).1, .int .i64 (checkG g).2.1, .int .i64 (checkG g).2.2]) := by
  obtain ⟨dv, rv, rfl, hnm, hge, hgr, hsd, hsr⟩ := id hg
  obtain ⟨a, cap, rfl, hcap, hmx, hel⟩ := id hsd
  obtain ⟨a2, cap2, rfl, hcap2, hmx2, hel2⟩ := id hsr
  refine enter Try.func25 rfl Try.ntmps25 rfl ?_
  have hS := St.start w0
  refine seq ?_
  refine region ?_
  refine sbox hS rfl rfl ?_; clear hS; intro b1 w hS
  refine sv (yAsg rfl) ?_
  refine sv (yAsg rfl) ?_
  refine sv (yAsg rfl) ?_
  refine nil ?_
  show Code.wp _ _ _ _ _
  refine seq ?_
  refine seq ?_
  refine region ?_
  refine sv (fa34_0 rfl) ?_
  refine sv (yLdB rfl Try.isAgg9 (hS.at _) rfl) ?_
  refine scall Try.call22 (.cons rfl .nil) (c_rName hnm) ?_
  rintro _ w ⟨rfl, hE⟩; replace hS := hS.step hE; clear hE
  refine sv (yNot rfl) ?_
  refine nil ?_
  show Code.wp _ _ _ _ _
  refine cond rfl (fun c13 => ?_) (fun c13 => ?_)
  ·
    refine seq ?_
    refine region ?_
    refine sv (yAsg rfl) ?_
    refine sv (yAsg rfl) ?_
    refine sv (yAsg rfl) ?_
    refine nil ?_
    show Code.wp _ _ _ _ _
    have hge0 : gErr g = 6 := by unfold gErr; rw [if_pos c13]
    have hfin : checkG g = (1, 0, gErr g) := by unfold checkG; rw [if_pos (by rw [hge0]; decide)]
    rw [hge0] at hfin
    refine wp_ret (thenR ?_)
    exact retV (res3 rfl (fstI hfin) (thd1I hfin) (thd2I hfin)) hS.ext
  ·
    refine skip ?_
    show Code.wp _ _ _ _ _
    refine seq ?_
    refine seq ?_
    refine region ?_
    refine sv (fa34_1 rfl) ?_
    refine sv (yLdB rfl Try.isAgg3 (hS.at _) rfl) ?_
    refine scall Try.call63 (.cons rfl (.cons rfl (.cons rfl .nil))) c_in ?_
    rintro _ w ⟨rfl, hE⟩; replace hS := hS.step hE; clear hE
    refine sv (yNot rfl) ?_
    refine sv (yMove rfl) ?_
    refine sg rfl rfl rfl (fun g => (fa34_2 rfl)) (fun v19 g19 => ?_)
    refine sg rfl rfl rfl (fun g => (yLdB (g19.1 g) Try.isAgg3 (hS.at _) rfl)) (fun v20 g20 => ?_)
    refine sgc hS rfl rfl rfl Try.call63 (fun g => (.cons (g20.1 g) (.cons rfl (.cons rfl .nil)))) (fun g => c_in) ?_; clear hS; intro v21 w hS g21
    refine sg rfl rfl rfl (fun g => (yNot (g21.1 g))) (fun v22 g22 => ?_)
    refine sv (yOr rfl rfl (fun hB => (g22.1 hB))) ?_
    refine nil ?_
    show Code.wp _ _ _ _ _
    refine cond rfl (fun c23 => ?_) (fun c23 => ?_)
    ·
      simp only [← outB_inB] at c23
      refine seq ?_
      refine region ?_
      refine sv (yAsg rfl) ?_
      refine sv (yAsg rfl) ?_
      refine sv (yAsg rfl) ?_
      refine nil ?_
      show Code.wp _ _ _ _ _
      have hge0 : gErr g = 7 := by unfold gErr; rw [if_neg (by rw [c13]; decide), if_pos c23]
      have hfin : checkG g = (1, 0, gErr g) := by unfold checkG; rw [if_pos (by rw [hge0]; decide)]
      rw [hge0] at hfin
      refine wp_ret (thenR ?_)
      exact retV (res3 rfl (fstI hfin) (thd1I hfin) (thd2I hfin)) hS.ext
    ·
      simp only [← outB_inB] at c23
      refine skip ?_
      show Code.wp _ _ _ _ _
      refine seq ?_
      refine seq ?_
      refine region ?_
      refine sv (fa34_3 rfl) ?_
      refine sv (yLdB rfl Try.isAgg31 (hS.at _) rfl) ?_
      refine sv (yLen rfl Try.underlying31) ?_
      refine scall Try.call63 (.cons rfl (.cons rfl (.cons rfl .nil))) c_in ?_
      rintro _ w ⟨rfl, hE⟩; replace hS := hS.step hE; clear hE
      refine sv (yNot rfl) ?_
      refine nil ?_
      show Code.wp _ _ _ _ _
      refine cond rfl (fun c28 => ?_) (fun c28 => ?_)
      ·
        simp only [← outB_inB] at c28
        refine seq ?_
        refine region ?_
        refine sv (yAsg rfl) ?_
        refine sv (yAsg rfl) ?_
        refine sv (yAsg rfl) ?_
        refine nil ?_
        show Code.wp _ _ _ _ _
        have hfin : checkG g = (2, 0, 3) := by unfold checkG; rw [if_neg (fun h => h (by unfold gErr; rw [if_neg (by rw [c13]; decide), if_neg (by rw [c23]; decide)])), if_pos c28]
        refine wp_ret (thenR ?_)
        exact retV (res3 rfl (fstI hfin) (thd1I hfin) (thd2I hfin)) hS.ext
      ·
        simp only [← outB_inB] at c28
        have hge0 : gErr g = 0 := by unfold gErr; rw [if_neg (by rw [c13]; decide), if_neg (by rw [c23]; decide)]
        refine skip ?_
        show Code.wp _ _ _ _ _
        refine seq ?_
        refine seq ?_
        refine region ?_
        refine sv (yAsg rfl) ?_
        refine nil ?_
        show Code.wp _ _ _ _ _
        refine block ?_
        refine loop (fun f w m => ∃ (k : Nat) (bef : Int), f 1 = .pointer (some ⟨b1, 0, none⟩) ∧ f 5 = .int .i64 (k : Int) ∧ St w0 w [blk b1 [.string g.name, .int .i64 g.err, .int .i64 g.rate, .slice a g.datums.length cap, .slice a2 g.readings.length cap2] 34] ∧ (k ≤ g.datums.length) ∧ (Bd bef (-1) 200000) ∧ ((k = 0 ∧ bef = -1) ∨ ∃ p, 0 < k ∧ g.datums[k - 1]? = some p ∧ bef = p.start ∧ 0 ≤ bef) ∧ (checkG g = checkD (checkRs g) (g.datums.drop k) bef k) ∧ m = g.datums.length - k) _ ⟨_, rfl, 0, -1, rfl, rfl, hS, (Nat.zero_le _), (by omega), (.inl ⟨rfl, rfl⟩), (by unfold checkG; rw [if_neg (fun h => h hge0), if_neg (by rw [c28]; decide)]; rfl), rfl⟩ ?_
        clear hS
        rintro f w _ ⟨k, bef, h1, h5, hS, hk, hb, hprev, hI, rfl⟩
        refine seq ?_
        refine seq ?_
        refine region ?_
        refine sv (yMove h5) ?_
        refine sv (fa34_3 h1) ?_
        refine sv (yLdB rfl Try.isAgg31 (hS.at _) rfl) ?_
        refine sv (yLen rfl Try.underlying31) ?_
        refine sv (yLss rfl rfl) ?_
        refine nil ?_
        show Code.wp _ _ _ _ _
        refine cond rfl (fun c33 => ?_) (fun c33 => ?_)
        ·
          simp only [Bool.and_eq_true, Bool.or_eq_true, Bool.and_eq_false_iff, Bool.or_eq_false_iff, decide_eq_true_eq, decide_eq_false_iff_not, Bool.not_eq_true, Bool.not_eq_false, Bool.not_not, Bool.not_eq_eq_eq_not, Bool.not_true, Bool.not_false, Bool.false_eq_true, Bool.true_eq_false, ne_eq, Decidable.not_not, not_false_eq_true, not_true_eq_false] at c33
          obtain ⟨d, hx, hd⟩ := drop_of (l := g.datums) (k := k) (by omega)
          obtain ⟨b, o, cs, ha, hlen, hcs, hR⟩ := hel (k) (by omega)
          obtain rfl : d = g.datums[k] := (List.getElem?_eq_some_iff.1 hx).2.symm
          generalize g.datums[k] = d at hx hd hR
          obtain ⟨rfl, hd1, hd2, hd3⟩ := hR
          refine skip ?_
          show Code.wp _ _ _ _ _
          refine seq ?_
          refine block ?_
          refine seq ?_
          refine region ?_
          refine sv (fa34_3 h1) ?_
          refine sv (yLdB rfl Try.isAgg31 (hS.at _) rfl) ?_
          refine sv (yMove h5) ?_
          refine sv (yIxa rfl ha rfl Try.runUnderlying31 Try.sizeOf78 (by omega) (by omega)) ?_
          refine sv (yLdA rfl Try.isAgg78 Try.sizeOf78 (hcs.ext hS.ext) rfl) ?_
          refine salloc hS Try.zeroValue78 rfl ?_; clear hS; intro b6 w hS
          refine sst hS rfl rfl Try.sizeOf78 rfl rfl rfl rfl ?_; clear hS; intro w hS
          refine nil ?_
          show Code.wp _ _ _ _ _
          refine seq ?_
          refine region ?_
          refine sv (fa78_0 rfl) ?_
          refine sv (yLdB rfl Try.isAgg3 (hS.at _) rfl) ?_
          refine scall Try.call67 (.cons rfl .nil) c_tick ?_
          rintro _ w ⟨rfl, hE⟩; replace hS := hS.step hE; clear hE
          refine sv (yMove rfl) ?_
          refine sg rfl rfl rfl (fun g => (fa78_1 rfl)) (fun v45 g45 => ?_)
          refine sg rfl rfl rfl (fun g => (fa38_0 (g45.1 g))) (fun v46 g46 => ?_)
          refine sg rfl rfl rfl (fun g => (yLdB (g46.1 g) Try.isAgg3 (hS.at _) rfl)) (fun v47 g47 => ?_)
          refine sg rfl rfl rfl (fun g => (fa78_1 rfl)) (fun v48 g48 => ?_)
          refine sg rfl rfl rfl (fun g => (fa38_1 (g48.1 g))) (fun v49 g49 => ?_)
          refine sg rfl rfl rfl (fun g => (yLdB (g49.1 g) Try.isAgg3 (hS.at _) rfl)) (fun v50 g50 => ?_)
          refine sgc hS rfl rfl rfl Try.call63 (fun g => (.cons (g47.1 g) (.cons rfl (.cons (g50.1 g) .nil)))) (fun g => c_in) ?_; clear hS; intro v51 w hS g51
          refine sv (yAnd rfl (fun hB => (g51.1 hB)) rfl) ?_
          refine sv (yMove rfl) ?_
          refine sg rfl rfl rfl (fun g => (fa78_1 rfl)) (fun v54 g54 => ?_)
          refine sg rfl rfl rfl (fun g => (fa38_1 (g54.1 g))) (fun v55 g55 => ?_)
          refine sg rfl rfl rfl (fun g => (yLdB (g55.1 g) Try.isAgg3 (hS.at _) rfl)) (fun v56 g56 => ?_)
          refine sg rfl rfl rfl (fun g => (yLeq (g56.1 g) rfl)) (fun v57 g57 => ?_)
          refine sv (yAnd rfl (fun hB => (g57.1 hB)) rfl) ?_
          refine sv (yAsg rfl) ?_
          refine nil ?_
          show Code.wp _ _ _ _ _
          refine seq ?_
          refine seq ?_
          refine region ?_
          refine sv (yMove h5) ?_
          refine sv (yEql rfl rfl) ?_
          refine nil ?_
          show Code.wp _ _ _ _ _
          refine cond rfl (fun c60 => ?_) (fun c60 => ?_)
          ·
            simp only [Bool.and_eq_true, Bool.or_eq_true, Bool.and_eq_false_iff, Bool.or_eq_false_iff, decide_eq_true_eq, decide_eq_false_iff_not, Bool.not_eq_true, Bool.not_eq_false, Bool.not_not, Bool.not_eq_eq_eq_not, Bool.not_true, Bool.not_false, Bool.false_eq_true, Bool.true_eq_false, ne_eq, Decidable.not_not, not_false_eq_true, not_true_eq_false] at c60
            obtain rfl : bef = -1 := by rcases hprev with h | ⟨p, h, _⟩; exact h.2; omega
            refine region ?_
            refine sv (yMove rfl) ?_
            refine sv (yMove rfl) ?_
            refine sg rfl rfl rfl (fun g => (fa78_0 rfl)) (fun v63 g63 => ?_)
            refine sg rfl rfl rfl (fun g => (yLdB (g63.1 g) Try.isAgg3 (hS.at _) rfl)) (fun v64 g64 => ?_)
            refine sg rfl rfl rfl (fun g => (yEql (g64.1 g) rfl)) (fun v65 g65 => ?_)
            refine sv (yAnd rfl (fun hB => (g65.1 hB)) rfl) ?_
            refine sv (yAsg rfl) ?_
            refine nil ?_
            show Code.wp _ _ _ _ _
            refine seq ?_
            refine region ?_
            refine sv (yMove rfl) ?_
            refine sv (yNot rfl) ?_
            refine nil ?_
            show Code.wp _ _ _ _ _
            refine cond rfl (fun c81 => ?_) (fun c81 => ?_)
            ·
              have hbad := (dat0_eq c60).symm.trans c81
              refine seq ?_
              refine region ?_
              refine sv (yMove h5) ?_
              refine sv (yAsg rfl) ?_
              refine sv (yAsg rfl) ?_
              refine sv (yAsg rfl) ?_
              refine nil ?_
              show Code.wp _ _ _ _ _
              have hfin : checkG g = (2, (k : Int), 7) := by rw [hI, hd, checkD, if_pos hbad]
              refine wp_ret (blockR (thenR (thenR (blockR (thenR ?_)))))
              exact retV (res3 rfl (fstI hfin) (thd1I hfin) (thd2I hfin)) hS.ext
            ·
              have hbad := (dat0_eq c60).symm.trans c81
              refine skip ?_
              show Code.wp _ _ _ _ _
              refine region ?_
              refine sv (yMove h5) ?_
              refine sv (yAdd rfl rfl ⟨by omega, by omega⟩) ?_
              refine sv (yAsg rfl) ?_
              refine nil ?_
              exact ⟨_, _, rfl, ⟨k + 1, d.start, h1, rfl, (hS.sub (.cons _ (List.Sublist.refl _))), (by omega), (by have := datBad_iff.1 hbad; omega), (.inr ⟨d, by omega, hx, rfl, by have := datBad_iff.1 hbad; omega⟩), (by rw [hI, hd, checkD, if_neg (by rw [hbad]; decide)]), rfl⟩, by omega⟩
          ·
            simp only [Bool.and_eq_true, Bool.or_eq_true, Bool.and_eq_false_iff, Bool.or_eq_false_iff, decide_eq_true_eq, decide_eq_false_iff_not, Bool.not_eq_true, Bool.not_eq_false, Bool.not_not, Bool.not_eq_eq_eq_not, Bool.not_true, Bool.not_false, Bool.false_eq_true, Bool.true_eq_false, ne_eq, Decidable.not_not, not_false_eq_true, not_true_eq_false] at c60
            obtain ⟨p, hk0, hp, rfl, hp0⟩ : ∃ p, 0 < k ∧ g.datums[k - 1]? = some p ∧ bef = p.start ∧ 0 ≤ bef := hprev.resolve_left (by omega)
            obtain ⟨b4, o4, cs4, ha4, hlen4, hcs4, hR4⟩ := hel (k - 1) (by omega)
            rw [(List.getElem?_eq_some_iff.1 hp).2] at hR4
            obtain ⟨rfl, _⟩ := hR4
            refine region_draw mixed (by kernel_rfl) hS ?_
            refine qv (fun w hS => (yMove rfl)) ?_
            refine qv (fun w hS => (yMove rfl)) ?_
            refine qg rfl rfl rfl (fun g w hS => (fa78_0 rfl)) (fun v69 g69 => ?_)
            refine qg rfl rfl rfl (fun g w hS => (yLdB (g69.1 g) Try.isAgg3 (hS.at _) rfl)) (fun v70 g70 => ?_)
            refine qg rfl rfl rfl (fun g w hS => (fa34_3 h1)) (fun v71 g71 => ?_)
            refine qg rfl rfl rfl (fun g w hS => (yLdB (g71.1 g) Try.isAgg31 (hS.at _) rfl)) (fun v72 g72 => ?_)
            refine qg rfl rfl rfl (fun g w hS => (yMove h5)) (fun v73 g73 => ?_)
            refine qg rfl rfl rfl (fun g w hS => (Y.to (ySub (g73.1 g) rfl ⟨by omega, by omega⟩) (show Value.int .i64 ((k : Int) - 1) = .int .i64 ((k - 1 : Nat) : Int) by congr 1; omega))) (fun v74 g74 => ?_)
            refine qg rfl rfl rfl (fun g w hS => (yIxa (g72.1 g) ha4 (g74.1 g) Try.runUnderlying31 Try.sizeOf78 (by omega) (by omega))) (fun v75 g75 => ?_)
            refine qg rfl rfl rfl (fun g w hS => (fa78_0 (g75.1 g))) (fun v76 g76 => ?_)
            refine qg rfl rfl rfl (fun g w hS => (yLd (g76.1 g) Try.isAgg3 ((hcs4.ext hS.ext).at (j := 0) rfl))) (fun v77 g77 => ?_)
            refine qg rfl rfl rfl (fun g w hS => (yGtr (g70.1 g) (g77.1 g))) (fun v78 g78 => ?_)
            refine qv (fun w hS => (yAnd rfl (fun hB => (g78.1 hB)) rfl)) ?_
            refine qv (fun w hS => (yAsg rfl)) ?_
            clear hS; refine qnil (fun w hS => ?_)
            show Code.wp _ _ _ _ _
            refine seq ?_
            refine region ?_
            refine sv (yMove rfl) ?_
            refine sv (yNot rfl) ?_
            refine nil ?_
            show Code.wp _ _ _ _ _
            refine cond rfl (fun c81 => ?_) (fun c81 => ?_)
            ·
              have hbad := (dat1_eq hp0 (show (k : Int) ≠ 0 by omega)).symm.trans c81
              refine seq ?_
              refine region ?_
              refine sv (yMove h5) ?_
              refine sv (yAsg rfl) ?_
              refine sv (yAsg rfl) ?_
              refine sv (yAsg rfl) ?_
              refine nil ?_
              show Code.wp _ _ _ _ _
              have hfin : checkG g = (2, (k : Int), 7) := by rw [hI, hd, checkD, if_pos hbad]
              refine wp_ret (blockR (thenR (thenR (blockR (thenR ?_)))))
              exact retV (res3 rfl (fstI hfin) (thd1I hfin) (thd2I hfin)) hS.ext
            ·
              have hbad := (dat1_eq hp0 (show (k : Int) ≠ 0 by omega)).symm.trans c81
              refine skip ?_
              show Code.wp _ _ _ _ _
              refine region ?_
              refine sv (yMove h5) ?_
              refine sv (yAdd rfl rfl ⟨by omega, by omega⟩) ?_
              refine sv (yAsg rfl) ?_
              refine nil ?_
              exact ⟨_, _, rfl, ⟨k + 1, d.start, h1, rfl, (hS.sub (.cons _ (List.Sublist.refl _))), (by omega), (by have := datBad_iff.1 hbad; omega), (.inr ⟨d, by omega, hx, rfl, by have := datBad_iff.1 hbad; omega⟩), (by rw [hI, hd, checkD, if_neg (by rw [hbad]; decide)]), rfl⟩, by omega⟩
        ·
          simp only [Bool.and_eq_true, Bool.or_eq_true, Bool.and_eq_false_iff, Bool.or_eq_false_iff, decide_eq_true_eq, decide_eq_false_iff_not, Bool.not_eq_true, Bool.not_eq_false, Bool.not_not, Bool.not_eq_eq_eq_not, Bool.not_true, Bool.not_false, Bool.false_eq_true, Bool.true_eq_false, ne_eq, Decidable.not_not, not_false_eq_true, not_true_eq_false] at c33
          obtain rfl : k = g.datums.length := by omega
          rw [List.drop_length, checkD] at hI
          unfold checkRs at hI
          refine exit ?_
          show Code.wp _ _ _ _ _
          refine seq ?_
          refine seq ?_
          refine region ?_
          refine sv (fa34_4 h1) ?_
          refine sv (yLdB rfl Try.isAgg32 (hS.at _) rfl) ?_
          refine sv (yLen rfl Try.underlying32) ?_
          refine sv (yGtr rfl rfl) ?_
          refine nil ?_
          show Code.wp _ _ _ _ _
          refine cond rfl (fun c86 => ?_) (fun c86 => ?_)
          ·
            simp only [Bool.and_eq_true, Bool.or_eq_true, Bool.and_eq_false_iff, Bool.or_eq_false_iff, decide_eq_true_eq, decide_eq_false_iff_not, Bool.not_eq_true, Bool.not_eq_false, Bool.not_not, Bool.not_eq_eq_eq_not, Bool.not_true, Bool.not_false, Bool.false_eq_true, Bool.true_eq_false, ne_eq, Decidable.not_not, not_false_eq_true, not_true_eq_false] at c86
            refine seq ?_
            refine region ?_
            refine sv (yAsg rfl) ?_
            refine sv (yAsg rfl) ?_
            refine sv (yAsg rfl) ?_
            refine nil ?_
            show Code.wp _ _ _ _ _
            have hfin : checkG g = (3, 0, 3) := by rw [hI, if_pos c86]
            refine wp_ret (thenR ?_)
            exact retV (res3 rfl (fstI hfin) (thd1I hfin) (thd2I hfin)) hS.ext
          ·
            simp only [Bool.and_eq_true, Bool.or_eq_true, Bool.and_eq_false_iff, Bool.or_eq_false_iff, decide_eq_true_eq, decide_eq_false_iff_not, Bool.not_eq_true, Bool.not_eq_false, Bool.not_not, Bool.not_eq_eq_eq_not, Bool.not_true, Bool.not_false, Bool.false_eq_true, Bool.true_eq_false, ne_eq, Decidable.not_not, not_false_eq_true, not_true_eq_false] at c86
            refine skip ?_
            show Code.wp _ _ _ _ _
            refine seq ?_
            refine seq ?_
            refine region ?_
            refine sv (yAsg rfl) ?_
            refine nil ?_
            show Code.wp _ _ _ _ _
            refine block ?_
            refine loop (fun f w m => ∃ (k : Nat) (bef : Int), f 1 = .pointer (some ⟨b1, 0, none⟩) ∧ f 8 = .int .i64 (k : Int) ∧ St w0 w [blk b1 [.string g.name, .int .i64 g.err, .int .i64 g.rate, .slice a g.datums.length cap, .slice a2 g.readings.length cap2] 34] ∧ (k ≤ g.readings.length) ∧ (Bd bef (-1) 200000) ∧ ((k = 0 ∧ bef = -1) ∨ ∃ p, 0 < k ∧ g.readings[k - 1]? = some p ∧ bef = p.tick ∧ 0 ≤ bef) ∧ (checkG g = checkR (g.readings.drop k) bef k) ∧ m = g.readings.length - k) _ ⟨_, rfl, 0, -1, h1, rfl, hS, (Nat.zero_le _), (by omega), (.inl ⟨rfl, rfl⟩), (by rw [hI, if_neg (by omega)]; rfl), rfl⟩ ?_
            clear hS
            rintro f w _ ⟨k, bef, h1, h8, hS, hk, hb, hprev, hI, rfl⟩
            refine seq ?_
            refine seq ?_
            refine region ?_
            refine sv (yMove h8) ?_
            refine sv (fa34_4 h1) ?_
            refine sv (yLdB rfl Try.isAgg32 (hS.at _) rfl) ?_
            refine sv (yLen rfl Try.underlying32) ?_
            refine sv (yLss rfl rfl) ?_
            refine nil ?_
            show Code.wp _ _ _ _ _
            refine cond rfl (fun c91 => ?_) (fun c91 => ?_)
            ·
              simp only [Bool.and_eq_true, Bool.or_eq_true, Bool.and_eq_false_iff, Bool.or_eq_false_iff, decide_eq_true_eq, decide_eq_false_iff_not, Bool.not_eq_true, Bool.not_eq_false, Bool.not_not, Bool.not_eq_eq_eq_not, Bool.not_true, Bool.not_false, Bool.false_eq_true, Bool.true_eq_false, ne_eq, Decidable.not_not, not_false_eq_true, not_true_eq_false] at c91
              obtain ⟨r, hx, hd⟩ := drop_of (l := g.readings) (k := k) (by omega)
              obtain ⟨b, o, cs, ha, hlen, hcs, hR⟩ := hel2 (k) (by omega)
              obtain rfl : r = g.readings[k] := (List.getElem?_eq_some_iff.1 hx).2.symm
              generalize g.readings[k] = r at hx hd hR
              obtain ⟨rfl, hr1, hr2⟩ := hR
              obtain ⟨b4, o4, p4, hp4⟩ : ∃ b o p, 0 < k → a2 = some ⟨b, o, none⟩ ∧ Cells w0 b (o + (k - 1) * 2) (readC p) ∧ bef = p.tick ∧ 0 ≤ bef := by
                rcases hprev with h | ⟨p, hk0, hp, hbe, hp0⟩
                · exact ⟨0, 0, ⟨0, 0⟩, fun h0 => absurd h0 (by omega)⟩
                · obtain ⟨b4, o4, cs4, ha4, hlen4, hcs4, hR4⟩ := hel2 (k - 1) (by omega)
                  rw [(List.getElem?_eq_some_iff.1 hp).2] at hR4
                  obtain ⟨rfl, _⟩ := hR4
                  exact ⟨b4, o4, _, fun _ => ⟨ha4, hcs4, hbe, hp0⟩⟩
              refine skip ?_
              show Code.wp _ _ _ _ _
              refine seq ?_
              refine block ?_
              refine seq ?_
              refine region ?_
              refine sv (fa34_4 h1) ?_
              refine sv (yLdB rfl Try.isAgg32 (hS.at _) rfl) ?_
              refine sv (yMove h8) ?_
              refine sv (yIxa rfl ha rfl Try.runUnderlying32 Try.sizeOf103 (by omega) (by omega)) ?_
              refine sv (yLdA rfl Try.isAgg103 Try.sizeOf103 (hcs.ext hS.ext) rfl) ?_
              refine salloc hS Try.zeroValue103 rfl ?_; clear hS; intro b9 w hS
              refine sst hS rfl rfl Try.sizeOf103 rfl rfl rfl rfl ?_; clear hS; intro w hS
              refine nil ?_
              show Code.wp _ _ _ _ _
              refine seq ?_
              refine region_draw mixed (by kernel_rfl) hS ?_
              refine qv (fun w hS => (fa103_0 rfl)) ?_
              refine qv (fun w hS => (yLdB rfl Try.isAgg3 (hS.at _) rfl)) ?_
              refine qcall Try.call67 (.cons rfl .nil) (fun w hS => c_tick) ?_
              refine qv (fun w hS => (yNot rfl)) ?_
              refine qv (fun w hS => (yMove rfl)) ?_
              refine qg rfl rfl rfl (fun g w hS => (fa103_1 rfl)) (fun v104 g104 => ?_)
              refine qg rfl rfl rfl (fun g w hS => (yLdB (g104.1 g) Try.isAgg3 (hS.at _) rfl)) (fun v105 g105 => ?_)
              refine qgc rfl rfl rfl Try.call63 (fun g => (.cons (g105.1 g) (.cons rfl (.cons rfl .nil)))) (fun g w hS => c_in) (fun v106 g106 => ?_)
              refine qg rfl rfl rfl (fun g w hS => (yNot (g106.1 g))) (fun v107 g107 => ?_)
              refine qv (fun w hS => (yOr rfl rfl (fun hB => (g107.1 hB)))) ?_
              refine qv (fun w hS => (yMove rfl)) ?_
              refine qg rfl rfl rfl (fun g w hS => (yMove h8)) (fun v110 g110 => ?_)
              refine qg rfl rfl rfl (fun g w hS => (yGtr (g110.1 g) rfl)) (fun v111 g111 => ?_)
              refine qg rfl rfl rfl (fun g w hS => (yMove (g111.1 g))) (fun v112 g112 => ?_)
              refine qgg rfl rfl g112 (fun g w hS => (fa103_0 rfl)) (fun v113 g113 => ?_)
              refine qgg rfl rfl g112 (fun g w hS => (yLdB (g113.1 g) Try.isAgg3 (hS.at _) rfl)) (fun v114 g114 => ?_)
              refine qgg rfl rfl g112 (fun g w hS => (fa34_4 h1)) (fun v115 g115 => ?_)
              refine qgg rfl rfl g112 (fun g w hS => (yLdB (g115.1 g) Try.isAgg32 (hS.at _) rfl)) (fun v116 g116 => ?_)
              refine qgg rfl rfl g112 (fun g w hS => (yMove h8)) (fun v117 g117 => ?_)
              refine qgg rfl rfl g112 (fun g w hS => (Y.to (ySub (g117.1 g) rfl ⟨by omega, by omega⟩) (show Value.int .i64 ((k : Int) - 1) = .int .i64 ((k - 1 : Nat) : Int) by have := of_decide_eq_true g.2; congr 1; omega))) (fun v118 g118 => ?_)
              refine qgg rfl rfl g112 (fun g w hS => (yIxa (g116.1 g) (hp4 (by have := of_decide_eq_true g.2; omega)).1 (g118.1 g) Try.runUnderlying32 Try.sizeOf103 (by omega) (by omega))) (fun v119 g119 => ?_)
              refine qgg rfl rfl g112 (fun g w hS => (fa103_0 (g119.1 g))) (fun v120 g120 => ?_)
              refine qgg rfl rfl g112 (fun g w hS => (yLd (g120.1 g) Try.isAgg3 (((hp4 (by have := of_decide_eq_true g.2; omega)).2.1.ext hS.ext).at (j := 0) rfl))) (fun v121 g121 => ?_)
              refine qgg rfl rfl g112 (fun g w hS => (yLeq (g114.1 g) (g121.1 g))) (fun v122 g122 => ?_)
              refine qg rfl rfl rfl (fun g w hS => (yAnd (g112.1 g) (fun hB => (g122.1 ⟨g, hB⟩)) rfl)) (fun v123 g123 => ?_)
              refine qv (fun w hS => (yOr rfl rfl (fun hB => (g123.1 hB)))) ?_
              clear hS; refine qnil (fun w hS => ?_)
              show Code.wp _ _ _ _ _
              refine cond rfl (fun c124 => ?_) (fun c124 => ?_)
              ·
                have hbad := (read_eq (fun h => (hp4 h).2.2) hprev).symm.trans c124
                refine seq ?_
                refine region ?_
                refine sv (yMove h8) ?_
                refine sv (yAsg rfl) ?_
                refine sv (yAsg rfl) ?_
                refine sv (yAsg rfl) ?_
                refine nil ?_
                show Code.wp _ _ _ _ _
                have hfin : checkG g = (3, (k : Int), 7) := by rw [hI, hd, checkR, if_pos hbad]
                refine wp_ret (blockR (thenR (thenR (blockR (thenR ?_)))))
                exact retV (res3 rfl (fstI hfin) (thd1I hfin) (thd2I hfin)) hS.ext
              ·
                have hbad := (read_eq (fun h => (hp4 h).2.2) hprev).symm.trans c124
                refine skip ?_
                show Code.wp _ _ _ _ _
                refine region ?_
                refine sv (yMove h8) ?_
                refine sv (yAdd rfl rfl ⟨by omega, by omega⟩) ?_
                refine sv (yAsg rfl) ?_
                refine nil ?_
                exact ⟨_, _, rfl, ⟨k + 1, r.tick, h1, rfl, (hS.sub (.cons _ (List.Sublist.refl _))), (by omega), (by have := readBad_iff.1 hbad; omega), (.inr ⟨r, by omega, hx, rfl, by have := readBad_iff.1 hbad; omega⟩), (by rw [hI, hd, checkR, if_neg (by rw [hbad]; decide)]), rfl⟩, by omega⟩
            ·
              simp only [Bool.and_eq_true, Bool.or_eq_true, Bool.and_eq_false_iff, Bool.or_eq_false_iff, decide_eq_true_eq, decide_eq_false_iff_not, Bool.not_eq_true, Bool.not_eq_false, Bool.not_not, Bool.not_eq_eq_eq_not, Bool.not_true, Bool.not_false, Bool.false_eq_true, Bool.true_eq_false, ne_eq, Decidable.not_not, not_false_eq_true, not_true_eq_false] at c91
              obtain rfl : k = g.readings.length := by omega
              refine exit ?_
              show Code.wp _ _ _ _ _
              refine seq ?_
              refine region ?_
              refine sv (yAsg rfl) ?_
              refine sv (yAsg rfl) ?_
              refine sv (yAsg rfl) ?_
              refine nil ?_
              show Code.wp _ _ _ _ _
              have hfin : checkG g = (0, 0, 0) := by rw [hI, List.drop_length]; rfl
              refine wp_ret ?_
              exact retV (res3 rfl (fstI hfin) (thd1I hfin) (thd2I hfin)) hS.ext
end Go.Proofs.Ytpgmehignepidaa
