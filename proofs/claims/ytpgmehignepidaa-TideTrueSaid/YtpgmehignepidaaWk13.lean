/- Walks, part Wk13. -/
import Derived.Test.YtpgmehignepidaaWk12
import Derived.Test.YtpgmehignepidaaP11
set_option linter.all false
namespace Go.Proofs.Ytpgmehignepidaa
open Go Bx
/-- barrage/barrageref01.Spans -/
theorem c_Spans {la lb : List Span} {va vb : Value} {w0 : World} (ha : Sl w0 2 RSpan va la) (hb : Sl w0 2 RSpan vb lb) : CV Try.prog 36 #[va, vb] w0 (.bool (decide (la = lb))) := by
  obtain ⟨aa, ca, rfl, hca, hma, hela⟩ := ha
  obtain ⟨ab, cb, rfl, hcb, hmb, helb⟩ := hb
  refine enter Try.func36 rfl Try.ntmps36 rfl ?_
  have hS := St.start w0
  refine seq ?_
  refine region ?_
  refine sv (yAsg rfl) ?_
  refine nil ?_
  show Code.wp _ _ _ _ _
  refine seq ?_
  refine seq ?_
  refine region ?_
  refine sv (yMove rfl) ?_
  refine sv (yLen rfl Try.underlying61) ?_
  refine sv (yMove rfl) ?_
  refine sv (yLen rfl Try.underlying61) ?_
  refine sv (yNeq rfl rfl) ?_
  refine nil ?_
  show Code.wp _ _ _ _ _
  refine cond rfl (fun c10 => ?_) (fun c10 => ?_)
  ·
    simp only [Bool.and_eq_true, Bool.or_eq_true, Bool.and_eq_false_iff, Bool.or_eq_false_iff, decide_eq_true_eq, decide_eq_false_iff_not, Bool.not_eq_true, Bool.not_eq_false, Bool.not_not, Bool.not_eq_eq_eq_not, Bool.not_true, Bool.not_false, Bool.false_eq_true, Bool.true_eq_false, ne_eq, Decidable.not_not, not_false_eq_true, not_true_eq_false] at c10
    refine seq ?_
    refine region ?_
    refine sv (yAsg rfl) ?_
    refine nil ?_
    show Code.wp _ _ _ _ _
    refine wp_ret (thenR ?_)
    exact retV (res1 rfl (eqB (by rw [decide_eq_false (fun h => by rw [h] at c10; exact c10 rfl)]))) hS.ext
  ·
    simp only [Bool.and_eq_true, Bool.or_eq_true, Bool.and_eq_false_iff, Bool.or_eq_false_iff, decide_eq_true_eq, decide_eq_false_iff_not, Bool.not_eq_true, Bool.not_eq_false, Bool.not_not, Bool.not_eq_eq_eq_not, Bool.not_true, Bool.not_false, Bool.false_eq_true, Bool.true_eq_false, ne_eq, Decidable.not_not, not_false_eq_true, not_true_eq_false] at c10
    refine skip ?_
    show Code.wp _ _ _ _ _
    refine seq ?_
    refine seq ?_
    refine region ?_
    refine sv (yAsg rfl) ?_
    refine nil ?_
    show Code.wp _ _ _ _ _
    refine block ?_
    refine loop (fun f w zz => ∃ (k : Nat), f 0 = .slice aa la.length ca ∧ f 1 = .slice ab lb.length cb ∧ f 5 = .int .i64 (k : Int) ∧ St w0 w [] ∧ (k ≤ la.length) ∧ (∀ i, i < k → la[i]? = lb[i]?) ∧ zz = la.length - k) _ ⟨_, rfl, 0, rfl, rfl, rfl, hS, (Nat.zero_le _), (fun i hi => absurd hi (Nat.not_lt_zero i)), rfl⟩ ?_
    clear hS
    rintro f w _ ⟨k, h0, h1, h5, hS, hk, hI, rfl⟩
    refine seq ?_
    refine seq ?_
    refine region ?_
    refine sv (yMove h5) ?_
    refine sv (yMove h0) ?_
    refine sv (yLen rfl Try.underlying61) ?_
    refine sv (yLss rfl rfl) ?_
    refine nil ?_
    show Code.wp _ _ _ _ _
    refine cond rfl (fun c14 => ?_) (fun c14 => ?_)
    ·
      simp only [Bool.and_eq_true, Bool.or_eq_true, Bool.and_eq_false_iff, Bool.or_eq_false_iff, decide_eq_true_eq, decide_eq_false_iff_not, Bool.not_eq_true, Bool.not_eq_false, Bool.not_not, Bool.not_eq_eq_eq_not, Bool.not_true, Bool.not_false, Bool.false_eq_true, Bool.true_eq_false, ne_eq, Decidable.not_not, not_false_eq_true, not_true_eq_false] at c14
      obtain ⟨x, hx, hd⟩ := drop_of (l := la) (k := k) (by omega)
      obtain ⟨b, o, cs, ha, hlen, hcs, hR⟩ := hela (k) (by omega)
      obtain rfl : x = la[k] := (List.getElem?_eq_some_iff.1 hx).2.symm
      generalize la[k] = x at hx hd hR
      obtain ⟨rfl, _, _⟩ := hR
      obtain ⟨y, hxq, hdq⟩ := drop_of (l := lb) (k := k) (by omega)
      obtain ⟨bq, oq, csq, haq, hlenq, hcsq, hRq⟩ := helb (k) (by omega)
      obtain rfl : y = lb[k] := (List.getElem?_eq_some_iff.1 hxq).2.symm
      generalize lb[k] = y at hxq hdq hRq
      obtain ⟨rfl, _, _⟩ := hRq
      refine skip ?_
      show Code.wp _ _ _ _ _
      refine seq ?_
      refine block ?_
      refine seq ?_
      refine region_draw mixed (by kernel_rfl) hS ?_
      refine qv (fun w hS => (yMove h0)) ?_
      refine qv (fun w hS => (yMove h5)) ?_
      refine qv (fun w hS => (yIxa rfl ha rfl Try.runUnderlying61 Try.sizeOf38 (by omega) (by omega))) ?_
      refine qv (fun w hS => (yLdA rfl Try.isAgg38 Try.sizeOf38 (hcs.ext hS.ext) rfl)) ?_
      refine qv (fun w hS => (yMove h1)) ?_
      refine qv (fun w hS => (yMove h5)) ?_
      refine qv (fun w hS => (yIxa rfl haq rfl Try.runUnderlying61 Try.sizeOf38 (by omega) (by omega))) ?_
      refine qv (fun w hS => (yLdA rfl Try.isAgg38 Try.sizeOf38 (hcsq.ext hS.ext) rfl)) ?_
      refine qv (fun w hS => (neS38 rfl rfl)) ?_
      clear hS; refine qnil (fun w hS => ?_)
      show Code.wp _ _ _ _ _
      refine cond rfl (fun c25 => ?_) (fun c25 => ?_)
      ·
        simp only [Bool.and_eq_true, Bool.or_eq_true, Bool.and_eq_false_iff, Bool.or_eq_false_iff, decide_eq_true_eq, decide_eq_false_iff_not, Bool.not_eq_true, Bool.not_eq_false, Bool.not_not, Bool.not_eq_eq_eq_not, Bool.not_true, Bool.not_false, Bool.false_eq_true, Bool.true_eq_false, ne_eq, Decidable.not_not, not_false_eq_true, not_true_eq_false] at c25
        have hne : x ≠ y := fun h => by subst h; simp at c25
        refine seq ?_
        refine region ?_
        refine sv (yAsg rfl) ?_
        refine nil ?_
        show Code.wp _ _ _ _ _
        refine wp_ret (blockR (thenR (thenR (blockR (thenR ?_)))))
        exact retV (res1 rfl (eqB (by rw [decide_eq_false (ne_of_get hx hxq hne)]))) hS.ext
      ·
        simp only [Bool.and_eq_true, Bool.or_eq_true, Bool.and_eq_false_iff, Bool.or_eq_false_iff, decide_eq_true_eq, decide_eq_false_iff_not, Bool.not_eq_true, Bool.not_eq_false, Bool.not_not, Bool.not_eq_eq_eq_not, Bool.not_true, Bool.not_false, Bool.false_eq_true, Bool.true_eq_false, ne_eq, Decidable.not_not, not_false_eq_true, not_true_eq_false] at c25
        have hxy : x = y := by cases x; cases y; simp at c25; simp [c25]
        refine skip ?_
        show Code.wp _ _ _ _ _
        refine region ?_
        refine sv (yMove h5) ?_
        refine sv (yAdd rfl rfl ⟨by omega, by omega⟩) ?_
        refine sv (yAsg rfl) ?_
        refine nil ?_
        exact ⟨_, _, rfl, ⟨k + 1, h0, h1, rfl, hS, (by omega), (snoc hI (by rw [hx, hxq, hxy])), rfl⟩, by omega⟩
    ·
      simp only [Bool.and_eq_true, Bool.or_eq_true, Bool.and_eq_false_iff, Bool.or_eq_false_iff, decide_eq_true_eq, decide_eq_false_iff_not, Bool.not_eq_true, Bool.not_eq_false, Bool.not_not, Bool.not_eq_eq_eq_not, Bool.not_true, Bool.not_false, Bool.false_eq_true, Bool.true_eq_false, ne_eq, Decidable.not_not, not_false_eq_true, not_true_eq_false] at c14
      refine exit ?_
      show Code.wp _ _ _ _ _
      refine seq ?_
      refine region ?_
      refine sv (yAsg rfl) ?_
      refine nil ?_
      show Code.wp _ _ _ _ _
      refine wp_ret ?_
      exact retV (res1 rfl (eqB (by rw [decide_eq_true (eq_of_get (by omega) (fun i hi => hI i (by omega)))]))) hS.ext
/-- barrage/barrageref01.Ints -/
theorem c_Ints {la lb : List Int} {va vb : Value} {w0 : World} (ha : Sl w0 1 RInt va la) (hb : Sl w0 1 RInt vb lb) : CV Try.prog 41 #[va, vb] w0 (.bool (decide (la = lb))) := by
  obtain ⟨aa, ca, rfl, hca, hma, hela⟩ := ha
  obtain ⟨ab, cb, rfl, hcb, hmb, helb⟩ := hb
  refine enter Try.func41 rfl Try.ntmps41 rfl ?_
  have hS := St.start w0
  refine seq ?_
  refine region ?_
  refine sv (yAsg rfl) ?_
  refine nil ?_
  show Code.wp _ _ _ _ _
  refine seq ?_
  refine seq ?_
  refine region ?_
  refine sv (yMove rfl) ?_
  refine sv (yLen rfl Try.underlying44) ?_
  refine sv (yMove rfl) ?_
  refine sv (yLen rfl Try.underlying44) ?_
  refine sv (yNeq rfl rfl) ?_
  refine nil ?_
  show Code.wp _ _ _ _ _
  refine cond rfl (fun c10 => ?_) (fun c10 => ?_)
  ·
    simp only [Bool.and_eq_true, Bool.or_eq_true, Bool.and_eq_false_iff, Bool.or_eq_false_iff, decide_eq_true_eq, decide_eq_false_iff_not, Bool.not_eq_true, Bool.not_eq_false, Bool.not_not, Bool.not_eq_eq_eq_not, Bool.not_true, Bool.not_false, Bool.false_eq_true, Bool.true_eq_false, ne_eq, Decidable.not_not, not_false_eq_true, not_true_eq_false] at c10
    refine seq ?_
    refine region ?_
    refine sv (yAsg rfl) ?_
    refine nil ?_
    show Code.wp _ _ _ _ _
    refine wp_ret (thenR ?_)
    exact retV (res1 rfl (eqB (by rw [decide_eq_false (fun h => by rw [h] at c10; exact c10 rfl)]))) hS.ext
  ·
    simp only [Bool.and_eq_true, Bool.or_eq_true, Bool.and_eq_false_iff, Bool.or_eq_false_iff, decide_eq_true_eq, decide_eq_false_iff_not, Bool.not_eq_true, Bool.not_eq_false, Bool.not_not, Bool.not_eq_eq_eq_not, Bool.not_true, Bool.not_false, Bool.false_eq_true, Bool.true_eq_false, ne_eq, Decidable.not_not, not_false_eq_true, not_true_eq_false] at c10
    refine skip ?_
    show Code.wp _ _ _ _ _
    refine seq ?_
    refine seq ?_
    refine region ?_
    refine sv (yAsg rfl) ?_
    refine nil ?_
    show Code.wp _ _ _ _ _
    refine block ?_
    refine loop (fun f w zz => ∃ (k : Nat), f 0 = .slice aa la.length ca ∧ f 1 = .slice ab lb.length cb ∧ f 5 = .int .i64 (k : Int) ∧ St w0 w [] ∧ (k ≤ la.length) ∧ (∀ i, i < k → la[i]? = lb[i]?) ∧ zz = la.length - k) _ ⟨_, rfl, 0, rfl, rfl, rfl, hS, (Nat.zero_le _), (fun i hi => absurd hi (Nat.not_lt_zero i)), rfl⟩ ?_
    clear hS
    rintro f w _ ⟨k, h0, h1, h5, hS, hk, hI, rfl⟩
    refine seq ?_
    refine seq ?_
    refine region ?_
    refine sv (yMove h5) ?_
    refine sv (yMove h0) ?_
    refine sv (yLen rfl Try.underlying44) ?_
    refine sv (yLss rfl rfl) ?_
    refine nil ?_
    show Code.wp _ _ _ _ _
    refine cond rfl (fun c14 => ?_) (fun c14 => ?_)
    ·
      simp only [Bool.and_eq_true, Bool.or_eq_true, Bool.and_eq_false_iff, Bool.or_eq_false_iff, decide_eq_true_eq, decide_eq_false_iff_not, Bool.not_eq_true, Bool.not_eq_false, Bool.not_not, Bool.not_eq_eq_eq_not, Bool.not_true, Bool.not_false, Bool.false_eq_true, Bool.true_eq_false, ne_eq, Decidable.not_not, not_false_eq_true, not_true_eq_false] at c14
      obtain ⟨x, hx, hd⟩ := drop_of (l := la) (k := k) (by omega)
      obtain ⟨b, o, cs, ha, hlen, hcs, hR⟩ := hela (k) (by omega)
      obtain rfl : x = la[k] := (List.getElem?_eq_some_iff.1 hx).2.symm
      generalize la[k] = x at hx hd hR
      obtain ⟨rfl, _⟩ := hR
      obtain ⟨y, hxq, hdq⟩ := drop_of (l := lb) (k := k) (by omega)
      obtain ⟨bq, oq, csq, haq, hlenq, hcsq, hRq⟩ := helb (k) (by omega)
      obtain rfl : y = lb[k] := (List.getElem?_eq_some_iff.1 hxq).2.symm
      generalize lb[k] = y at hxq hdq hRq
      obtain ⟨rfl, _⟩ := hRq
      refine skip ?_
      show Code.wp _ _ _ _ _
      refine seq ?_
      refine block ?_
      refine seq ?_
      refine region_draw mixed (by kernel_rfl) hS ?_
      refine qv (fun w hS => (yMove h0)) ?_
      refine qv (fun w hS => (yMove h5)) ?_
      refine qv (fun w hS => (yIxa rfl ha rfl Try.runUnderlying44 Try.sizeOf3 (by omega) (by omega))) ?_
      refine qv (fun w hS => (yLd rfl Try.isAgg3 ((hcs.ext hS.ext).one))) ?_
      refine qv (fun w hS => (yMove h1)) ?_
      refine qv (fun w hS => (yMove h5)) ?_
      refine qv (fun w hS => (yIxa rfl haq rfl Try.runUnderlying44 Try.sizeOf3 (by omega) (by omega))) ?_
      refine qv (fun w hS => (yLd rfl Try.isAgg3 ((hcsq.ext hS.ext).one))) ?_
      refine qv (fun w hS => (yNeq rfl rfl)) ?_
      clear hS; refine qnil (fun w hS => ?_)
      show Code.wp _ _ _ _ _
      refine cond rfl (fun c25 => ?_) (fun c25 => ?_)
      ·
        simp only [Bool.and_eq_true, Bool.or_eq_true, Bool.and_eq_false_iff, Bool.or_eq_false_iff, decide_eq_true_eq, decide_eq_false_iff_not, Bool.not_eq_true, Bool.not_eq_false, Bool.not_not, Bool.not_eq_eq_eq_not, Bool.not_true, Bool.not_false, Bool.false_eq_true, Bool.true_eq_false, ne_eq, Decidable.not_not, not_false_eq_true, not_true_eq_false] at c25
        have hne : x ≠ y := fun h => by subst h; simp at c25
        refine seq ?_
        refine region ?_
        refine sv (yAsg rfl) ?_
        refine nil ?_
        show Code.wp _ _ _ _ _
        refine wp_ret (blockR (thenR (thenR (blockR (thenR ?_)))))
        exact retV (res1 rfl (eqB (by rw [decide_eq_false (ne_of_get hx hxq hne)]))) hS.ext
      ·
        simp only [Bool.and_eq_true, Bool.or_eq_true, Bool.and_eq_false_iff, Bool.or_eq_false_iff, decide_eq_true_eq, decide_eq_false_iff_not, Bool.not_eq_true, Bool.not_eq_false, Bool.not_not, Bool.not_eq_eq_eq_not, Bool.not_true, Bool.not_false, Bool.false_eq_true, Bool.true_eq_false, ne_eq, Decidable.not_not, not_false_eq_true, not_true_eq_false] at c25
        have hxy : x = y := c25
        refine skip ?_
        show Code.wp _ _ _ _ _
        refine region ?_
        refine sv (yMove h5) ?_
        refine sv (yAdd rfl rfl ⟨by omega, by omega⟩) ?_
        refine sv (yAsg rfl) ?_
        refine nil ?_
        exact ⟨_, _, rfl, ⟨k + 1, h0, h1, rfl, hS, (by omega), (snoc hI (by rw [hx, hxq, hxy])), rfl⟩, by omega⟩
    ·
      simp only [Bool.and_eq_true, Bool.or_eq_true, Bool.and_eq_false_iff, Bool.or_eq_false_iff, decide_eq_true_eq, decide_eq_false_iff_not, Bool.not_eq_true, Bool.not_eq_false, Bool.not_not, Bool.not_eq_eq_eq_not, Bool.not_true, Bool.not_false, Bool.false_eq_true, Bool.true_eq_false, ne_eq, Decidable.not_not, not_false_eq_true, not_true_eq_false] at c14
      refine exit ?_
      show Code.wp _ _ _ _ _
      refine seq ?_
      refine region ?_
      refine sv (yAsg rfl) ?_
      refine nil ?_
      show Code.wp _ _ _ _ _
      refine wp_ret ?_
      exact retV (res1 rfl (eqB (by rw [decide_eq_true (eq_of_get (by omega) (fun i hi => hI i (by omega)))]))) hS.ext
/-- barrage/tide.some -/
theorem c_some {a n : Int} {w0 : World} : CV Try.prog 74 #[.int .i64 a, .int .i64 n] w0 (.int .i64 (someE a n)) := by
  refine enter Try.func74 rfl Try.ntmps74 rfl ?_
  have hS := St.start w0
  refine seq ?_
  refine region ?_
  refine sv (yAsg rfl) ?_
  refine nil ?_
  show Code.wp _ _ _ _ _
  refine seq ?_
  refine block ?_
  refine seq ?_
  refine region ?_
  refine sv (yMove rfl) ?_
  refine scall Try.call54 (.cons rfl (.cons rfl (.cons rfl .nil))) c_out ?_
  rintro _ w ⟨rfl, hE⟩; replace hS := hS.step hE; clear hE
  refine sv (yAsg rfl) ?_
  refine nil ?_
  show Code.wp _ _ _ _ _
  refine cond rfl (fun c5 => ?_) (fun c5 => ?_)
  ·
    refine seq ?_
    refine region ?_
    refine sv (yAsg rfl) ?_
    refine nil ?_
    show Code.wp _ _ _ _ _
    refine wp_ret (blockR (thenR ?_))
    exact retV (res1 rfl (eqI (by unfold someE; rw [if_pos c5]))) hS.ext
  ·
    refine seq ?_
    refine region ?_
    refine sv (yMove rfl) ?_
    refine sv (yEql rfl rfl) ?_
    refine sv (yAsg rfl) ?_
    refine nil ?_
    show Code.wp _ _ _ _ _
    refine cond rfl (fun c8 => ?_) (fun c8 => ?_)
    ·
      simp only [Bool.and_eq_true, Bool.or_eq_true, Bool.and_eq_false_iff, Bool.or_eq_false_iff, decide_eq_true_eq, decide_eq_false_iff_not, Bool.not_eq_true, Bool.not_eq_false, Bool.not_not, Bool.not_eq_eq_eq_not, Bool.not_true, Bool.not_false, Bool.false_eq_true, Bool.true_eq_false, ne_eq, Decidable.not_not, not_false_eq_true, not_true_eq_false] at c8
      refine seq ?_
      refine region ?_
      refine sv (yAsg rfl) ?_
      refine nil ?_
      show Code.wp _ _ _ _ _
      refine wp_ret (blockR (thenR ?_))
      exact retV (res1 rfl (eqI (by unfold someE; rw [if_neg (by rw [c5]; decide), if_pos c8]))) hS.ext
    ·
      simp only [Bool.and_eq_true, Bool.or_eq_true, Bool.and_eq_false_iff, Bool.or_eq_false_iff, decide_eq_true_eq, decide_eq_false_iff_not, Bool.not_eq_true, Bool.not_eq_false, Bool.not_not, Bool.not_eq_eq_eq_not, Bool.not_true, Bool.not_false, Bool.false_eq_true, Bool.true_eq_false, ne_eq, Decidable.not_not, not_false_eq_true, not_true_eq_false] at c8
      refine seq ?_
      refine region ?_
      refine sv (yMove rfl) ?_
      refine scall Try.call54 (.cons rfl (.cons rfl (.cons rfl .nil))) c_out ?_
      rintro _ w ⟨rfl, hE⟩; replace hS := hS.step hE; clear hE
      refine sv (yAsg rfl) ?_
      refine nil ?_
      show Code.wp _ _ _ _ _
      refine cond rfl (fun c11 => ?_) (fun c11 => ?_)
      ·
        refine seq ?_
        refine region ?_
        refine sv (yAsg rfl) ?_
        refine nil ?_
        show Code.wp _ _ _ _ _
        refine wp_ret (blockR (thenR ?_))
        exact retV (res1 rfl (eqI (by unfold someE; rw [if_neg (by rw [c5]; decide), if_neg c8, if_pos c11]))) hS.ext
      ·
        have h5 := outB_false.1 c5
        have h11 := outB_false.1 c11
        refine skip ?_
        show Code.wp _ _ _ _ _
        refine seq ?_
        refine region ?_
        refine sv (yMove rfl) ?_
        refine sv (yMove rfl) ?_
        refine sv (yAdd rfl rfl ⟨by omega, by omega⟩) ?_
        refine sv (ySub rfl rfl ⟨by omega, by omega⟩) ?_
        refine sbslice hS Try.underlying44 Try.sizeOf3 rfl Try.zeroValue3 rfl (.cons rfl rfl .nil) rfl ?_; clear hS; intro b18 w hS
        refine scall Try.call68 (.cons rfl .nil) (c_ticks (l := [a + n - 1]) (ints_sl (l := [a + n - 1]) (hS.at b18) (by simp; exact ⟨by omega, by omega⟩) (Nat.le_of_ble_eq_true rfl))) ?_
        rintro _ w ⟨rfl, hE⟩; replace hS := hS.step hE; clear hE
        refine sv (yAsg rfl) ?_
        refine nil ?_
        show Code.wp _ _ _ _ _
        refine wp_ret ?_
        exact retV (res1 rfl (eqI (by unfold someE; rw [if_neg (by rw [c5]; decide), if_neg c8, if_neg (by rw [c11]; decide)]))) hS.ext
/-- barrage/barrageref01.some -/
theorem c_rsome {a n : Int} {w0 : World} : CV Try.prog 75 #[.int .i64 a, .int .i64 n] w0 (.int .i64 (someE a n)) := by
  refine enter Try.func75 rfl Try.ntmps75 rfl ?_
  have hS := St.start w0
  refine seq ?_
  refine region ?_
  refine sv (yAsg rfl) ?_
  refine nil ?_
  show Code.wp _ _ _ _ _
  refine seq ?_
  refine seq ?_
  refine region ?_
  refine sv (yMove rfl) ?_
  refine scall Try.call63 (.cons rfl (.cons rfl (.cons rfl .nil))) c_in ?_
  rintro _ w ⟨rfl, hE⟩; replace hS := hS.step hE; clear hE
  refine sv (yNot rfl) ?_
  refine nil ?_
  show Code.wp _ _ _ _ _
  refine cond rfl (fun c7 => ?_) (fun c7 => ?_)
  ·
    simp only [← outB_inB] at c7
    refine seq ?_
    refine region ?_
    refine sv (yAsg rfl) ?_
    refine nil ?_
    show Code.wp _ _ _ _ _
    refine wp_ret (thenR ?_)
    exact retV (res1 rfl (eqI (by unfold someE; rw [if_pos c7]))) hS.ext
  ·
    simp only [← outB_inB] at c7
    have h7 := outB_false.1 c7
    refine skip ?_
    show Code.wp _ _ _ _ _
    refine seq ?_
    refine seq ?_
    refine region ?_
    refine sv (yMove rfl) ?_
    refine sv (yGtr rfl rfl) ?_
    refine sv (yMove rfl) ?_
    refine sg rfl rfl rfl (fun g => (yMove rfl)) (fun v11 g11 => ?_)
    refine sgc hS rfl rfl rfl Try.call67 (fun g => (.cons (g11.1 g) .nil)) (fun g => c_tick) ?_; clear hS; intro v12 w hS g12
    refine sg rfl rfl rfl (fun g => (yNot (g12.1 g))) (fun v13 g13 => ?_)
    refine sg rfl rfl rfl (fun g => (yMove (g13.1 g))) (fun v14 g14 => ?_)
    refine sgg rfl rfl g14 (fun g => (yMove rfl)) (fun v15 g15 => ?_)
    refine sgg rfl rfl g14 (fun g => (yMove rfl)) (fun v16 g16 => ?_)
    have hin : ∀ {x : Prop} {b : Bool}, x ∧ b = false → x := fun h => h.1
    refine sgg rfl rfl g14 (fun g => (yAdd (g15.1 g) (g16.1 g) (by obtain ⟨g1, g2⟩ := g; have := inB_iff.1 (by simpa using g2); exact ⟨by omega, by omega⟩))) (fun v17 g17 => ?_)
    refine sgg rfl rfl g14 (fun g => (ySub (g17.1 g) rfl (by obtain ⟨g1, g2⟩ := g; have := inB_iff.1 (by simpa using g2); exact ⟨by omega, by omega⟩))) (fun v18 g18 => ?_)
    refine sggc hS rfl rfl g14 Try.call67 (fun g => (.cons (g18.1 g) .nil)) (fun g => c_tick) ?_; clear hS; intro v19 w hS g19
    refine sgg rfl rfl g14 (fun g => (yNot (g19.1 g))) (fun v20 g20 => ?_)
    refine sg rfl rfl rfl (fun g => (yOr (g14.1 g) rfl (fun hB => (g20.1 ⟨g, hB⟩)))) (fun v21 g21 => ?_)
    refine sv (yAnd rfl (fun hB => (g21.1 hB)) rfl) ?_
    refine nil ?_
    show Code.wp _ _ _ _ _
    refine cond rfl (fun c22 => ?_) (fun c22 => ?_)
    ·
      simp only [Bool.and_eq_true, Bool.or_eq_true, Bool.not_eq_true, Bool.and_eq_false_iff, Bool.or_eq_false_iff, decide_eq_true_eq, decide_eq_false_iff_not, Bool.not_eq_false', Bool.not_eq_true'] at c22
      refine seq ?_
      refine region ?_
      refine sv (yAsg rfl) ?_
      refine nil ?_
      show Code.wp _ _ _ _ _
      have hq : ¬ Bd a 0 200000 ∨ ¬ Bd (a + n - 1) 0 200000 := by
        rcases c22.2 with h | h
        · exact .inl (fun k => by rw [inB_iff.2 k] at h; cases h)
        · exact .inr (fun k => by rw [inB_iff.2 k] at h; cases h)
      have hfin : someE a n = 7 := by rw [someE_eq a n h7, if_pos ⟨c22.1, hq⟩]
      refine wp_ret (thenR ?_)
      exact retV (res1 rfl (eqI hfin)) hS.ext
    ·
      simp only [Bool.and_eq_true, Bool.or_eq_true, Bool.not_eq_true, Bool.and_eq_false_iff, Bool.or_eq_false_iff, decide_eq_true_eq, decide_eq_false_iff_not, Bool.not_eq_false', Bool.not_eq_true'] at c22
      refine skip ?_
      show Code.wp _ _ _ _ _
      refine seq ?_
      refine region ?_
      refine sv (yAsg rfl) ?_
      refine nil ?_
      show Code.wp _ _ _ _ _
      have hfin : someE a n = 0 := by
        rw [someE_eq a n h7, if_neg]
        rintro ⟨h1, h2⟩
        rcases c22 with h | ⟨h, k⟩
        · exact h h1
        · rcases h2 with h2 | h2
          · exact h2 (inB_iff.1 h)
          · exact h2 (inB_iff.1 k)
      refine wp_ret ?_
      exact retV (res1 rfl (eqI hfin)) hS.ext
/-- barrage/tide.parts -/
theorem c_parts0 {c : Const} {a : Option Addr} {cap : Nat} {tick : Int} {w0 : World} (hok : ConstOk c) : CE Try.prog 102 #[.agg [.string c.name, .slice a c.heights.length cap, .int .i64 c.off, .int .i64 c.step, .int .i64 c.den, .int .i64 c.slack].toArray, .int .i64 tick] w0 (fun v w' => ∃ bp bc pv, v = .func (.func 114) #[] [.pointer (some ⟨bp, 0, none⟩), .pointer (some ⟨bc, 0, none⟩)].toArray ∧ St w0 w' [blk bp [.int .i64 pv] 3, blk bc [.string c.name, .slice a c.heights.length cap, .int .i64 c.off, .int .i64 c.step, .int .i64 c.den, .int .i64 c.slack] 46]) := by
  refine enter Try.func102 rfl Try.ntmps102 rfl ?_
  have hS := St.start w0
  have hcy := cyc_pos hok
  refine seq ?_
  refine region ?_
  refine sbox hS rfl rfl ?_; clear hS; intro b2 w hS
  refine sv (yAsg rfl) ?_
  refine nil ?_
  show Code.wp _ _ _ _ _
  refine seq ?_
  refine region_any (C := (fun w => StX [] w0 w [blk b2 [.string c.name, .slice a c.heights.length cap, .int .i64 c.off, .int .i64 c.step, .int .i64 c.den, .int .i64 c.slack] 46])) mixed 8 11 (by kernel_rfl) (fun c a a' w h => by obtain ⟨_, v, hv, _⟩ := h; cases hv) hS (fun _ h => h) ?_
  clear hS; intro w hS
  refine hv (fun w hS => (fa46_2 rfl)) ?_
  refine hv (fun w hS => (yLdB rfl Try.isAgg3 (hS.at _) rfl)) ?_
  refine hv (fun w hS => (fa46_3 rfl)) ?_
  refine hv (fun w hS => (yLdB rfl Try.isAgg3 (hS.at _) rfl)) ?_
  refine hv (fun w hS => (yMove rfl)) ?_
  refine hv (fun w hS => (yMulW rfl rfl)) ?_
  refine hv (fun w hS => (yAddW rfl rfl)) ?_
  refine hv (fun w hS => (yLdBA rfl Try.isAgg46 Try.sizeOf46 (hS.at _) rfl rfl)) ?_
  refine hnil ?_
  show wpA _ _ _ _ _ _ _ _ _ _
  refine a_step (i := 8) (is := [10]) (by kernel_rfl) ⟨?_, ?_, trivial⟩
  ·
    refine ⟨_, rfl, ?_⟩
    refine scall Try.call61 (.cons rfl .nil) (c_cycle ⟨by omega, by omega⟩) ?_
    rintro _ w ⟨rfl, hE⟩; replace hS := hS.step hE; clear hE
    refine nil ?_
    refine ⟨fun _ => hS.sub (List.Sublist.refl _), ?_⟩
    show wpA _ _ _ _ _ _ _ _ _ _
    refine a_step (i := 9) (is := [10]) (by kernel_rfl) ⟨?_, ?_, trivial⟩
    ·
      refine ⟨_, rfl, ?_⟩
      refine sv (yRem rfl rfl (by omega)) ?_
      refine nil ?_
      refine ⟨fun _ => hS.sub (List.Sublist.refl _), ?_⟩
      show wpA _ _ _ _ _ _ _ _ _ _
      refine a_step (i := 10) (is := []) (by kernel_rfl) ⟨?_, trivial⟩
      refine ⟨_, rfl, ?_⟩
      refine salloc hS Try.zeroValue3 rfl ?_; clear hS; intro b5 w hS
      refine nil ?_
      refine ⟨fun _ => hS.sub (.cons _ (List.Sublist.refl _)), ?_⟩
      show wpA _ _ _ _ _ _ _ _ _ _
      refine a_step (i := 11) (is := []) (by kernel_rfl) ⟨?_, trivial⟩
      refine ⟨_, rfl, ?_⟩
      refine sst hS rfl rfl Try.sizeOf3 rfl rfl rfl rfl ?_; clear hS; intro w hS
      refine nil ?_
      refine ⟨fun h => absurd h (by decide), ?_⟩
      show wpA _ _ _ _ _ _ _ _ _ _
      refine a_end (by kernel_rfl) ?_
      show Code.wp _ _ _ _ _
      refine seq ?_
      refine region ?_
      refine sv (yFn (.cons rfl (.cons rfl .nil))) ?_
      refine sv (yAsg rfl) ?_
      refine nil ?_
      show Code.wp _ _ _ _ _
      refine wp_ret ?_
      refine retQ (res1 rfl rfl) ?_
      exact ⟨b5, b2, _, rfl, hS⟩
    ·
      refine ⟨_, rfl, ?_⟩
      refine salloc hS Try.zeroValue3 rfl ?_; clear hS; intro b5 w hS
      refine nil ?_
      refine ⟨fun _ => hS.sub (.cons _ (List.Sublist.refl _)), ?_⟩
      show wpA _ _ _ _ _ _ _ _ _ _
      refine a_step (i := 9) (is := []) (by kernel_rfl) ⟨?_, trivial⟩
      refine ⟨_, rfl, ?_⟩
      refine sv (yRem rfl rfl (by omega)) ?_
      refine nil ?_
      refine ⟨fun _ => hS.sub (.cons _ (List.Sublist.refl _)), ?_⟩
      show wpA _ _ _ _ _ _ _ _ _ _
      refine a_step (i := 11) (is := []) (by kernel_rfl) ⟨?_, trivial⟩
      refine ⟨_, rfl, ?_⟩
      refine sst hS rfl rfl Try.sizeOf3 rfl rfl rfl rfl ?_; clear hS; intro w hS
      refine nil ?_
      refine ⟨fun h => absurd h (by decide), ?_⟩
      show wpA _ _ _ _ _ _ _ _ _ _
      refine a_end (by kernel_rfl) ?_
      show Code.wp _ _ _ _ _
      refine seq ?_
      refine region ?_
      refine sv (yFn (.cons rfl (.cons rfl .nil))) ?_
      refine sv (yAsg rfl) ?_
      refine nil ?_
      show Code.wp _ _ _ _ _
      refine wp_ret ?_
      refine retQ (res1 rfl rfl) ?_
      exact ⟨b5, b2, _, rfl, hS⟩
  ·
    refine ⟨_, rfl, ?_⟩
    refine salloc hS Try.zeroValue3 rfl ?_; clear hS; intro b5 w hS
    refine nil ?_
    refine ⟨fun _ => hS.sub (.cons _ (List.Sublist.refl _)), ?_⟩
    show wpA _ _ _ _ _ _ _ _ _ _
    refine a_step (i := 8) (is := []) (by kernel_rfl) ⟨?_, trivial⟩
    refine ⟨_, rfl, ?_⟩
    refine scall Try.call61 (.cons rfl .nil) (c_cycle ⟨by omega, by omega⟩) ?_
    rintro _ w ⟨rfl, hE⟩; replace hS := hS.step hE; clear hE
    refine nil ?_
    refine ⟨fun _ => hS.sub (.cons _ (List.Sublist.refl _)), ?_⟩
    show wpA _ _ _ _ _ _ _ _ _ _
    refine a_step (i := 9) (is := []) (by kernel_rfl) ⟨?_, trivial⟩
    refine ⟨_, rfl, ?_⟩
    refine sv (yRem rfl rfl (by omega)) ?_
    refine nil ?_
    refine ⟨fun _ => hS.sub (.cons _ (List.Sublist.refl _)), ?_⟩
    show wpA _ _ _ _ _ _ _ _ _ _
    refine a_step (i := 11) (is := []) (by kernel_rfl) ⟨?_, trivial⟩
    refine ⟨_, rfl, ?_⟩
    refine sst hS rfl rfl Try.sizeOf3 rfl rfl rfl rfl ?_; clear hS; intro w hS
    refine nil ?_
    refine ⟨fun h => absurd h (by decide), ?_⟩
    show wpA _ _ _ _ _ _ _ _ _ _
    refine a_end (by kernel_rfl) ?_
    show Code.wp _ _ _ _ _
    refine seq ?_
    refine region ?_
    refine sv (yFn (.cons rfl (.cons rfl .nil))) ?_
    refine sv (yAsg rfl) ?_
    refine nil ?_
    show Code.wp _ _ _ _ _
    refine wp_ret ?_
    refine retQ (res1 rfl rfl) ?_
    exact ⟨b5, b2, _, rfl, hS⟩
set_option maxHeartbeats 1000000 in
/-- barrage/tide.levels -/
theorem c_levels0 {t : Table} {cv : Value} {from_ : Int} {w0 : World} (hsl : Sl w0 6 RConst cv t.consts) (hok : TableOk t) : CE Try.prog 71 #[.agg [.int .i64 t.mean, cv].toArray, .int .i64 from_, .int .i64 0] w0 (fun v w' => v = .slice none 0 0 ∧ Ext w0 w') := by
  obtain ⟨a, cap, rfl, hcap, hmx, hel⟩ := hsl
  have hmean := hok.mean
  have hlen12 := hok.len
  refine enter Try.func71 rfl Try.ntmps71 rfl ?_
  have hS := St.start w0
  refine seq ?_
  refine region ?_
  refine sbox hS rfl rfl ?_; clear hS; intro b3 w hS
  refine sv (yAsg rfl) ?_
  refine nil ?_
  show Code.wp _ _ _ _ _
  refine seq ?_
  refine region ?_
  refine sv (yMove rfl) ?_
  refine smake (bytes := 16) (zs := [.int .i64 0, .int .i64 0]) (m := 0) hS rfl rfl Try.underlying136 ti127 rfl rfl rfl rfl rfl (by omega) (by omega) ?_; clear hS; intro b17 w hS
  refine sv (yAsg rfl) ?_
  refine nil ?_
  show Code.wp _ _ _ _ _
  refine seq ?_
  refine seq ?_
  refine region ?_
  refine sv (yMove rfl) ?_
  refine sv (yLen rfl Try.underlying136) ?_
  refine sv (yMove rfl) ?_
  refine nil ?_
  show Code.wp _ _ _ _ _
  refine block ?_
  refine loop (fun f w zz => f 1 = .int .i64 from_ ∧ f 3 = .pointer (some ⟨b3, 0, none⟩) ∧ f 7 = .slice (some ⟨b17, 0, none⟩) 0 0 ∧ f 19 = .int .i64 0 ∧ f 20 = .int .i64 0 ∧ St w0 w [blk b3 [.int .i64 t.mean, .slice a t.consts.length cap] 24] ∧ zz = 0) _ ⟨_, rfl, rfl, rfl, rfl, rfl, rfl, (hS.sub (.cons _ (List.Sublist.refl _))), rfl⟩ ?_
  clear hS
  rintro f w _ ⟨h1, h3, h7, h19, h20, hS, rfl⟩
  refine seq ?_
  refine region ?_
  refine sv (yLss h20 h19) ?_
  refine nil ?_
  show Code.wp _ _ _ _ _
  refine seq ?_
  refine cond rfl (fun c21 => ?_) (fun c21 => ?_)
  ·
    simp only [Bool.and_eq_true, Bool.or_eq_true, Bool.and_eq_false_iff, Bool.or_eq_false_iff, decide_eq_true_eq, decide_eq_false_iff_not, Bool.not_eq_true, Bool.not_eq_false, Bool.not_not, Bool.not_eq_eq_eq_not, Bool.not_true, Bool.not_false, Bool.false_eq_true, Bool.true_eq_false, ne_eq, Decidable.not_not, not_false_eq_true, not_true_eq_false] at c21
    omega
  ·
    simp only [Bool.and_eq_true, Bool.or_eq_true, Bool.and_eq_false_iff, Bool.or_eq_false_iff, decide_eq_true_eq, decide_eq_false_iff_not, Bool.not_eq_true, Bool.not_eq_false, Bool.not_not, Bool.not_eq_eq_eq_not, Bool.not_true, Bool.not_false, Bool.false_eq_true, Bool.true_eq_false, ne_eq, Decidable.not_not, not_false_eq_true, not_true_eq_false] at c21
    refine exit ?_
    show Code.wp _ _ _ _ _
    refine seq ?_
    refine seq ?_
    refine region ?_
    refine sv (fa24_1 h3) ?_
    refine sv (yLdB rfl Try.isAgg22 (hS.at _) rfl) ?_
    refine sv (yLen rfl Try.underlying22) ?_
    refine sv (yMove rfl) ?_
    refine nil ?_
    show Code.wp _ _ _ _ _
    refine block ?_
    refine loop (fun f w zz => ∃ (k : Nat), f 1 = .int .i64 from_ ∧ f 7 = .slice (some ⟨b17, 0, none⟩) 0 0 ∧ f 34 = .slice a t.consts.length cap ∧ f 35 = .int .i64 (t.consts.length : Int) ∧ f 36 = .int .i64 (k : Int) ∧ St w0 w [] ∧ (k ≤ t.consts.length) ∧ zz = t.consts.length - k) _ ⟨_, rfl, 0, h1, h7, rfl, rfl, rfl, (hS.sub (List.nil_sublist _)), (Nat.zero_le _), rfl⟩ ?_
    clear hS
    rintro f w _ ⟨k, h1, h7, h34, h35, h36, hS, hk, rfl⟩
    refine seq ?_
    refine region ?_
    refine sv (yLss h36 h35) ?_
    refine nil ?_
    show Code.wp _ _ _ _ _
    refine seq ?_
    refine cond rfl (fun c37 => ?_) (fun c37 => ?_)
    ·
      simp only [Bool.and_eq_true, Bool.or_eq_true, Bool.and_eq_false_iff, Bool.or_eq_false_iff, decide_eq_true_eq, decide_eq_false_iff_not, Bool.not_eq_true, Bool.not_eq_false, Bool.not_not, Bool.not_eq_eq_eq_not, Bool.not_true, Bool.not_false, Bool.false_eq_true, Bool.true_eq_false, ne_eq, Decidable.not_not, not_false_eq_true, not_true_eq_false] at c37
      refine skip ?_
      show Code.wp _ _ _ _ _
      refine seq ?_
      refine block ?_
      refine seq ?_
      refine region ?_
      obtain ⟨c, hx, hd⟩ := drop_of (l := t.consts) (k := k) (by omega)
      obtain ⟨b, o, cs, ha, hlen, hcs, hR⟩ := hel (k) (by omega)
      obtain rfl : c = t.consts[k] := (List.getElem?_eq_some_iff.1 hx).2.symm
      generalize t.consts[k] = c at hx hd hR
      obtain ⟨hv, rfl, hn1, hsl1, _, _, _, _⟩ := hR
      have hcok : ConstOk c := hok.consts c (List.mem_of_getElem? hx)
      obtain ⟨a1, cap1, rfl, hq1, hq2, hq3⟩ := id hsl1
      refine sv (yIxa h34 ha h36 Try.runUnderlying22 Try.sizeOf46 (by omega) (by omega)) ?_
      refine sv (yLdA rfl Try.isAgg46 Try.sizeOf46 (hcs.ext hS.ext) rfl) ?_
      refine salloc hS Try.zeroValue46 rfl ?_; clear hS; intro b10 w hS
      refine sst hS rfl rfl Try.sizeOf46 rfl rfl rfl rfl ?_; clear hS; intro w hS
      refine nil ?_
      show Code.wp _ _ _ _ _
      refine seq ?_
      refine region ?_
      refine sv (yLdBA rfl Try.isAgg46 Try.sizeOf46 (hS.at _) rfl rfl) ?_
      refine sv (yMove h1) ?_
      refine scall Try.call102 (.cons rfl (.cons rfl .nil)) (c_parts0 hcok) ?_
      rintro _ w ⟨bp, bc, pv, rfl, hM⟩; replace hS := hS.call hM; clear hM
      refine sv (yAsg rfl) ?_
      refine nil ?_
      show Code.wp _ _ _ _ _
      refine seq ?_
      refine region ?_
      refine sv (yMove h7) ?_
      refine sv (yLen rfl Try.underlying136) ?_
      refine sv (yMove rfl) ?_
      refine nil ?_
      show Code.wp _ _ _ _ _
      refine block ?_
      refine loop (fun f w zz => f 1 = .int .i64 from_ ∧ f 7 = .slice (some ⟨b17, 0, none⟩) 0 0 ∧ f 34 = .slice a t.consts.length cap ∧ f 35 = .int .i64 (t.consts.length : Int) ∧ f 36 = .int .i64 (k : Int) ∧ f 44 = .int .i64 0 ∧ f 45 = .int .i64 0 ∧ St w0 w [] ∧ zz = 0) _ ⟨_, rfl, h1, h7, h34, h35, h36, rfl, rfl, (hS.sub (List.nil_sublist _)), rfl⟩ ?_
      clear hS
      rintro f w _ ⟨h1, h7, h34, h35, h36, h44, h45, hS, rfl⟩
      refine seq ?_
      refine region ?_
      refine sv (yLss h45 h44) ?_
      refine nil ?_
      show Code.wp _ _ _ _ _
      refine seq ?_
      refine cond rfl (fun c46 => ?_) (fun c46 => ?_)
      ·
        simp only [Bool.and_eq_true, Bool.or_eq_true, Bool.and_eq_false_iff, Bool.or_eq_false_iff, decide_eq_true_eq, decide_eq_false_iff_not, Bool.not_eq_true, Bool.not_eq_false, Bool.not_not, Bool.not_eq_eq_eq_not, Bool.not_true, Bool.not_false, Bool.false_eq_true, Bool.true_eq_false, ne_eq, Decidable.not_not, not_false_eq_true, not_true_eq_false] at c46
        omega
      ·
        simp only [Bool.and_eq_true, Bool.or_eq_true, Bool.and_eq_false_iff, Bool.or_eq_false_iff, decide_eq_true_eq, decide_eq_false_iff_not, Bool.not_eq_true, Bool.not_eq_false, Bool.not_not, Bool.not_eq_eq_eq_not, Bool.not_true, Bool.not_false, Bool.false_eq_true, Bool.true_eq_false, ne_eq, Decidable.not_not, not_false_eq_true, not_true_eq_false] at c46
        refine exit ?_
        show Code.wp _ _ _ _ _
        refine region ?_
        refine sv (yAdd h36 rfl ⟨by omega, by omega⟩) ?_
        refine sv (yMove rfl) ?_
        refine nil ?_
        exact ⟨_, _, rfl, ⟨k + 1, h1, h7, h34, h35, rfl, (hS.sub (List.nil_sublist _)), (by omega), rfl⟩, by omega⟩
    ·
      simp only [Bool.and_eq_true, Bool.or_eq_true, Bool.and_eq_false_iff, Bool.or_eq_false_iff, decide_eq_true_eq, decide_eq_false_iff_not, Bool.not_eq_true, Bool.not_eq_false, Bool.not_not, Bool.not_eq_eq_eq_not, Bool.not_true, Bool.not_false, Bool.false_eq_true, Bool.true_eq_false, ne_eq, Decidable.not_not, not_false_eq_true, not_true_eq_false] at c37
      refine exit ?_
      show Code.wp _ _ _ _ _
      refine seq ?_
      refine region ?_
      refine sv (yAsg rfl) ?_
      refine nil ?_
      show Code.wp _ _ _ _ _
      refine seq ?_
      refine seq ?_
      refine region ?_
      refine sv (yMove h7) ?_
      refine sv (yLen rfl Try.underlying136) ?_
      refine sv (yMove rfl) ?_
      refine nil ?_
      show Code.wp _ _ _ _ _
      refine block ?_
      refine loop (fun f w zz => f 13 = .slice none 0 0 ∧ f 57 = .int .i64 0 ∧ f 58 = .int .i64 0 ∧ St w0 w [] ∧ zz = 0) _ ⟨_, rfl, rfl, rfl, rfl, (hS.sub (List.nil_sublist _)), rfl⟩ ?_
      clear hS
      rintro f w _ ⟨h13, h57, h58, hS, rfl⟩
      refine seq ?_
      refine region ?_
      refine sv (yLss h58 h57) ?_
      refine nil ?_
      show Code.wp _ _ _ _ _
      refine seq ?_
      refine cond rfl (fun c59 => ?_) (fun c59 => ?_)
      ·
        simp only [Bool.and_eq_true, Bool.or_eq_true, Bool.and_eq_false_iff, Bool.or_eq_false_iff, decide_eq_true_eq, decide_eq_false_iff_not, Bool.not_eq_true, Bool.not_eq_false, Bool.not_not, Bool.not_eq_eq_eq_not, Bool.not_true, Bool.not_false, Bool.false_eq_true, Bool.true_eq_false, ne_eq, Decidable.not_not, not_false_eq_true, not_true_eq_false] at c59
        omega
      ·
        simp only [Bool.and_eq_true, Bool.or_eq_true, Bool.and_eq_false_iff, Bool.or_eq_false_iff, decide_eq_true_eq, decide_eq_false_iff_not, Bool.not_eq_true, Bool.not_eq_false, Bool.not_not, Bool.not_eq_eq_eq_not, Bool.not_true, Bool.not_false, Bool.false_eq_true, Bool.true_eq_false, ne_eq, Decidable.not_not, not_false_eq_true, not_true_eq_false] at c59
        refine exit ?_
        show Code.wp _ _ _ _ _
        refine seq ?_
        refine region ?_
        refine sv (yMove h13) ?_
        refine sv (yAsg rfl) ?_
        refine nil ?_
        show Code.wp _ _ _ _ _
        refine wp_ret ?_
        refine retQ (res1 rfl rfl) ?_
        exact ⟨rfl, hS.ext⟩
end Go.Proofs.Ytpgmehignepidaa
