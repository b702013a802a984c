/- Walks, part Wk10. -/
import Derived.Test.YtpgmehignepidaaWk9
import Derived.Test.YtpgmehignepidaaP8
set_option linter.all false
namespace Go.Proofs.Ytpgmehignepidaa
open Go Bx
/-- barrage/barragelaw01.has -/
theorem c_has {s : Span} {a : Int} {w0 : World} : CV Try.prog 29 #[.agg (spanC s).toArray, .int .i64 a] w0 (.bool (hasB s a)) := by
  refine enter Try.func29 rfl Try.ntmps29 rfl ?_
  have hS := St.start w0
  refine seq ?_
  refine region ?_
  refine sbox hS rfl rfl ?_; clear hS; intro b2 w hS
  refine sv (yAsg rfl) ?_
  refine nil ?_
  show Code.wp _ _ _ _ _
  refine seq ?_
  refine region ?_
  refine sv (fa38_0 rfl) ?_
  refine sv (yLdB rfl Try.isAgg3 (hS.at _) rfl) ?_
  refine sv (yMove rfl) ?_
  refine sv (yLeq rfl rfl) ?_
  refine sv (yMove rfl) ?_
  refine sg rfl rfl rfl (fun g => (yMove rfl)) (fun v10 g10 => ?_)
  refine sg rfl rfl rfl (fun g => (fa38_1 rfl)) (fun v11 g11 => ?_)
  refine sg rfl rfl rfl (fun g => (yLdB (g11.1 g) Try.isAgg3 (hS.at _) rfl)) (fun v12 g12 => ?_)
  refine sg rfl rfl rfl (fun g => (yLeq (g10.1 g) (g12.1 g))) (fun v13 g13 => ?_)
  refine sv (yAnd rfl (fun hB => (g13.1 hB)) rfl) ?_
  refine sv (yAsg rfl) ?_
  refine nil ?_
  show Code.wp _ _ _ _ _
  refine wp_ret ?_
  exact retV (res1 rfl rfl) hS.ext
/-- barrage/barragelaw01.within -/
theorem c_within {a b : Span} {w0 : World} : CV Try.prog 30 #[.agg (spanC a).toArray, .agg (spanC b).toArray] w0 (.bool (withinB a b)) := by
  refine enter Try.func30 rfl Try.ntmps30 rfl ?_
  have hS := St.start w0
  refine seq ?_
  refine region ?_
  refine sbox hS rfl rfl ?_; clear hS; intro b2 w hS
  refine sbox hS rfl rfl ?_; clear hS; intro b3 w hS
  refine sv (yAsg rfl) ?_
  refine nil ?_
  show Code.wp _ _ _ _ _
  refine seq ?_
  refine region ?_
  refine sv (fa38_0 rfl) ?_
  refine sv (yLdB rfl Try.isAgg3 (hS.at _) rfl) ?_
  refine sv (fa38_0 rfl) ?_
  refine sv (yLdB rfl Try.isAgg3 (hS.at _) rfl) ?_
  refine sv (yLeq rfl rfl) ?_
  refine sv (yMove rfl) ?_
  refine sg rfl rfl rfl (fun g => (fa38_1 rfl)) (fun v11 g11 => ?_)
  refine sg rfl rfl rfl (fun g => (yLdB (g11.1 g) Try.isAgg3 (hS.at _) rfl)) (fun v12 g12 => ?_)
  refine sg rfl rfl rfl (fun g => (fa38_1 rfl)) (fun v13 g13 => ?_)
  refine sg rfl rfl rfl (fun g => (yLdB (g13.1 g) Try.isAgg3 (hS.at _) rfl)) (fun v14 g14 => ?_)
  refine sg rfl rfl rfl (fun g => (yLeq (g12.1 g) (g14.1 g))) (fun v15 g15 => ?_)
  refine sv (yAnd rfl (fun hB => (g15.1 hB)) rfl) ?_
  refine sv (yAsg rfl) ?_
  refine nil ?_
  show Code.wp _ _ _ _ _
  refine wp_ret ?_
  exact retV (res1 rfl rfl) hS.ext
set_option maxHeartbeats 1000000 in
/-- barrage/barragelaw01.TideKnows -/
theorem w_TideKnows {g : Gauge} {cs xs : List Value} {x : Int × Int × Int} {w0 : World} (hg : RGauge w0 cs g) (hx : RI3 w0 xs x) : CV Try.prog 7 #[.agg cs.toArray, .agg xs.toArray] w0 (.bool true) := by
  obtain ⟨dv, rv, rfl, hnm, hge, hgr, hsd, hsr⟩ := id hg
  obtain ⟨a, cap, rfl, hcap, hmx, hel⟩ := id hsd
  obtain ⟨a2, cap2, rfl, hcap2, hmx2, hel2⟩ := id hsr
  obtain ⟨t, a1, a2⟩ := x
  obtain ⟨rfl, hi1, hi2, hi3⟩ := hx
  simp only [] at hi1 hi2 hi3
  have hmm : min a1 a2 ≤ max a1 a2 := by omega
  have hmi : I64 (min a1 a2) := by unfold I64 at *; omega
  have hma : I64 (max a1 a2) := by unfold I64 at *; omega
  refine enter Try.func7 rfl Try.ntmps7 rfl ?_
  have hS := St.start w0
  refine seq ?_
  refine region ?_
  refine sbox hS rfl rfl ?_; clear hS; intro b2 w hS
  refine sbox hS rfl rfl ?_; clear hS; intro b3 w hS
  refine sv (yAsg rfl) ?_
  refine nil ?_
  show Code.wp _ _ _ _ _
  refine seq ?_
  refine region_draw mixed (by kernel_rfl) hS ?_
  refine qv (fun w hS => (yIxA rfl rfl Try.runUnderlying58 Try.sizeOf3 (by omega) (by omega))) ?_
  refine qv (fun w hS => (yLdB rfl Try.isAgg3 (hS.at _) rfl)) ?_
  refine qv (fun w hS => (yIxA rfl rfl Try.runUnderlying58 Try.sizeOf3 (by omega) (by omega))) ?_
  refine qv (fun w hS => (yLdB rfl Try.isAgg3 (hS.at _) rfl)) ?_
  refine qv (fun w hS => (yIxA rfl rfl Try.runUnderlying58 Try.sizeOf3 (by omega) (by omega))) ?_
  refine qv (fun w hS => (yLdB rfl Try.isAgg3 (hS.at _) rfl)) ?_
  refine qv (fun w hS => (yMin rfl rfl)) ?_
  refine qv (fun w hS => (yIxA rfl rfl Try.runUnderlying58 Try.sizeOf3 (by omega) (by omega))) ?_
  refine qv (fun w hS => (yLdB rfl Try.isAgg3 (hS.at _) rfl)) ?_
  refine qv (fun w hS => (yIxA rfl rfl Try.runUnderlying58 Try.sizeOf3 (by omega) (by omega))) ?_
  refine qv (fun w hS => (yLdB rfl Try.isAgg3 (hS.at _) rfl)) ?_
  refine qv (fun w hS => (yMax rfl rfl)) ?_
  refine qv (fun w hS => (yAsg rfl)) ?_
  refine qv (fun w hS => (yAsg rfl)) ?_
  refine qv (fun w hS => (yAsg rfl)) ?_
  clear hS; refine qnil (fun w hS => ?_)
  show Code.wp _ _ _ _ _
  refine seq ?_
  refine region ?_
  refine sv (yLdBA rfl Try.isAgg34 Try.sizeOf34 (hS.at _) rfl rfl) ?_
  refine sv (yMove rfl) ?_
  refine sv (yMove rfl) ?_
  refine scall Try.call26 (.cons rfl (.cons rfl (.cons rfl .nil))) (c_Says (hg.ext hS.ext) hi1 hmi) ?_
  rintro _ w ⟨rfl, hE⟩; replace hS := hS.step hE; clear hE
  refine sv (yMove rfl) ?_
  refine sv (yExt rfl rfl) ?_
  refine sv (yExt rfl rfl) ?_
  refine salloc hS Try.zeroValue38 rfl ?_; clear hS; intro b8 w hS
  refine sst hS rfl rfl Try.sizeOf38 rfl rfl rfl rfl ?_; clear hS; intro w hS
  refine sv (yAsg rfl) ?_
  refine nil ?_
  show Code.wp _ _ _ _ _
  refine seq ?_
  refine region ?_
  refine sv (yLdBA rfl Try.isAgg34 Try.sizeOf34 (hS.at _) rfl rfl) ?_
  refine sv (yMove rfl) ?_
  refine sv (yMove rfl) ?_
  refine scall Try.call26 (.cons rfl (.cons rfl (.cons rfl .nil))) (c_Says (hg.ext hS.ext) hi1 hma) ?_
  rintro _ w ⟨rfl, hE⟩; replace hS := hS.step hE; clear hE
  refine sv (yMove rfl) ?_
  refine sv (yExt rfl rfl) ?_
  refine sv (yExt rfl rfl) ?_
  refine salloc hS Try.zeroValue38 rfl ?_; clear hS; intro b10 w hS
  refine sst hS rfl rfl Try.sizeOf38 rfl rfl rfl rfl ?_; clear hS; intro w hS
  refine sv (yAsg rfl) ?_
  refine nil ?_
  show Code.wp _ _ _ _ _
  refine seq ?_
  refine seq ?_
  refine region ?_
  refine sv (yMove rfl) ?_
  refine sv (yEql rfl rfl) ?_
  refine sv (yMove rfl) ?_
  refine sg rfl rfl rfl (fun g => (yMove rfl)) (fun v41 g41 => ?_)
  refine sg rfl rfl rfl (fun g => (yEql (g41.1 g) rfl)) (fun v42 g42 => ?_)
  refine sv (yAnd rfl (fun hB => (g42.1 hB)) rfl) ?_
  refine nil ?_
  show Code.wp _ _ _ _ _
  refine cond rfl (fun c43 => ?_) (fun c43 => ?_)
  ·
    simp only [Bool.and_eq_true, Bool.or_eq_true, Bool.and_eq_false_iff, Bool.or_eq_false_iff, decide_eq_true_eq, decide_eq_false_iff_not, Bool.not_eq_true, Bool.not_eq_false, Bool.not_not, Bool.not_eq_eq_eq_not, Bool.not_true, Bool.not_false, Bool.false_eq_true, Bool.true_eq_false, ne_eq, Decidable.not_not, not_false_eq_true, not_true_eq_false] at c43
    obtain ⟨hw, h2, h3, h4⟩ := says_more hmm c43.1 c43.2
    refine seq ?_
    refine region ?_
    refine sv (yLdBA rfl Try.isAgg38 Try.sizeOf38 (hS.at _) rfl rfl) ?_
    refine sv (yLdBA rfl Try.isAgg38 Try.sizeOf38 (hS.at _) rfl rfl) ?_
    refine scall Try.call30 (.cons rfl (.cons rfl .nil)) c_within ?_
    rintro _ w ⟨rfl, hE⟩; replace hS := hS.step hE; clear hE
    refine sv (yMove rfl) ?_
    refine sg rfl rfl rfl (fun g => (fa38_0 rfl)) (fun v48 g48 => ?_)
    refine sg rfl rfl rfl (fun g => (yLdB (g48.1 g) Try.isAgg3 (hS.at _) rfl)) (fun v49 g49 => ?_)
    refine sg rfl rfl rfl (fun g => (fa38_1 rfl)) (fun v50 g50 => ?_)
    refine sg rfl rfl rfl (fun g => (yLdB (g50.1 g) Try.isAgg3 (hS.at _) rfl)) (fun v51 g51 => ?_)
    refine sg rfl rfl rfl (fun g => (yLeq (g49.1 g) (g51.1 g))) (fun v52 g52 => ?_)
    refine sv (yAnd rfl (fun hB => (g52.1 hB)) rfl) ?_
    refine sv (yMove rfl) ?_
    refine sg rfl rfl rfl (fun g => (fa38_0 rfl)) (fun v55 g55 => ?_)
    refine sg rfl rfl rfl (fun g => (yLdB (g55.1 g) Try.isAgg3 (hS.at _) rfl)) (fun v56 g56 => ?_)
    refine sg rfl rfl rfl (fun g => (yGeq (g56.1 g) rfl)) (fun v57 g57 => ?_)
    refine sv (yAnd rfl (fun hB => (g57.1 hB)) rfl) ?_
    refine sv (yMove rfl) ?_
    refine sg rfl rfl rfl (fun g => (fa38_1 rfl)) (fun v60 g60 => ?_)
    refine sg rfl rfl rfl (fun g => (yLdB (g60.1 g) Try.isAgg3 (hS.at _) rfl)) (fun v61 g61 => ?_)
    refine sg rfl rfl rfl (fun g => (yLeq (g61.1 g) rfl)) (fun v62 g62 => ?_)
    refine sv (yAnd rfl (fun hB => (g62.1 hB)) rfl) ?_
    refine sv (yMove rfl) ?_
    refine sgc hS rfl rfl rfl Try.call23 (fun g => .nil) (fun g => c_Awake) ?_; clear hS; intro v65 w hS g65
    refine sv (yAnd rfl (fun hB => (g65.1 hB)) rfl) ?_
    refine sv (yAsg rfl) ?_
    refine nil ?_
    show Code.wp _ _ _ _ _
    refine wp_ret (thenR ?_)
    exact retV (res1 rfl (eqB (by rw [withinB_iff.2 hw]; simp [h2, h3, h4]))) hS.ext
  ·
    simp only [Bool.and_eq_true, Bool.or_eq_true, Bool.and_eq_false_iff, Bool.or_eq_false_iff, decide_eq_true_eq, decide_eq_false_iff_not, Bool.not_eq_true, Bool.not_eq_false, Bool.not_not, Bool.not_eq_eq_eq_not, Bool.not_true, Bool.not_false, Bool.false_eq_true, Bool.true_eq_false, ne_eq, Decidable.not_not, not_false_eq_true, not_true_eq_false] at c43
    refine skip ?_
    show Code.wp _ _ _ _ _
    refine seq ?_
    refine region ?_
    refine sv (yMove rfl) ?_
    refine sv (yNeq rfl rfl) ?_
    refine sv (yMove rfl) ?_
    refine sg rfl rfl rfl (fun g => (yMove rfl)) (fun v70 g70 => ?_)
    refine sg rfl rfl rfl (fun g => (yNeq (g70.1 g) rfl)) (fun v71 g71 => ?_)
    refine sv (yOr rfl rfl (fun hB => (g71.1 hB))) ?_
    refine sv (yMove rfl) ?_
    refine sgc hS rfl rfl rfl Try.call23 (fun g => .nil) (fun g => c_Awake) ?_; clear hS; intro v74 w hS g74
    refine sv (yAnd rfl (fun hB => (g74.1 hB)) rfl) ?_
    refine sv (yAsg rfl) ?_
    refine nil ?_
    show Code.wp _ _ _ _ _
    have hd := says_down (g := g) (t := t) hmm
    refine wp_ret ?_
    exact retV (res1 rfl (eqB (by by_cases h9 : (saysF g t (min a1 a2)).2 = 9 <;> simp [h9, hd]))) hS.ext
end Go.Proofs.Ytpgmehignepidaa
