/- Merged texts, part 4. -/
import Derived.Test.YtpgmehignepidaaQ3
import Derived.Test.YtpgmehignepidaaProg
set_option linter.all false
/- part Wk13 -/
namespace Go.Proofs.Ytpgmehignepidaa
open Go Bx
/-- barrage/barrageref01.Spans -/
theorem c_Spans {la lb : List Span} {va vb : Value} {w0 : World} (ha : Sl w0 2 RSpan va la) (hb : Sl w0 2 RSpan vb lb) : CV Try.prog 36 #[va, vb] w0 (.bool (decide (la = lb))) := by
  obtain ⟨aa, ca, rfl, hca, hma, hela⟩ := ha
  obtain ⟨ab, cb, rfl, hcb, hmb, helb⟩ := hb
  refine enter Try.func36 rfl Try.ntmps36 rfl ?_
  have hS := St.start w0
  refine seq ?_
  refine region ?_
  refine sv (yAsg rfl) ?_
  refine nil ?_
  show Code.wp _ _ _ _ _
  refine seq ?_
  refine seq ?_
  refine region ?_
  refine sv (yMove rfl) ?_
  refine sv (yLen rfl Try.underlying61) ?_
  refine sv (yMove rfl) ?_
  refine sv (yLen rfl Try.underlying61) ?_
  refine sv (yNeq rfl rfl) ?_
  refine nil ?_
  show Code.wp _ _ _ _ _
  refine cond rfl (fun c10 => ?_) (fun c10 => ?_)
  ·
    simp only [Bool.and_eq_true, Bool.or_eq_true, Bool.and_eq_false_iff, Bool.or_eq_false_iff, decide_eq_true_eq, decide_eq_false_iff_not, Bool.not_eq_true, Bool.not_eq_false, Bool.not_not, Bool.not_eq_eq_eq_not, Bool.not_true, Bool.not_false, Bool.false_eq_true, Bool.true_eq_false, ne_eq, Decidable.not_not, not_false_eq_true, not_true_eq_false] at c10
    refine seq ?_
    refine region ?_
    refine sv (yAsg rfl) ?_
    refine nil ?_
    show Code.wp _ _ _ _ _
    refine wp_ret (thenR ?_)
    exact retV (res1 rfl (eqB (by rw [decide_eq_false (fun h => by rw [h] at c10; exact c10 rfl)]))) hS.ext
  ·
    simp only [Bool.and_eq_true, Bool.or_eq_true, Bool.and_eq_false_iff, Bool.or_eq_false_iff, decide_eq_true_eq, decide_eq_false_iff_not, Bool.not_eq_true, Bool.not_eq_false, Bool.not_not, Bool.not_eq_eq_eq_not, Bool.not_true, Bool.not_false, Bool.false_eq_true, Bool.true_eq_false, ne_eq, Decidable.not_not, not_false_eq_true, not_true_eq_false] at c10
    refine skip ?_
    show Code.wp _ _ _ _ _
    refine seq ?_
    refine seq ?_
    refine region ?_
    refine sv (yAsg rfl) ?_
    refine nil ?_
    show Code.wp _ _ _ _ _
    refine block ?_
    refine loop (fun f w zz => ∃ (k : Nat), f 0 = .slice aa la.length ca ∧ f 1 = .slice ab lb.length cb ∧ f 5 = .int .i64 (k : Int) ∧ StX [] w0 w [] ∧ (k ≤ la.length) ∧ (∀ i, i < k → la[i]? = lb[i]?) ∧ zz = la.length - k) _ ⟨_, rfl, 0, rfl, rfl, rfl, hS, (Nat.zero_le _), (fun i hi => absurd hi (Nat.not_lt_zero i)), rfl⟩ ?_
    clear hS
    rintro f w _ ⟨k, h0, h1, h5, hS, hk, hI, rfl⟩
    refine seq ?_
    refine seq ?_
    refine region ?_
    refine sv (yMove h5) ?_
    refine sv (yMove h0) ?_
    refine sv (yLen rfl Try.underlying61) ?_
    refine sv (yLss rfl rfl) ?_
    refine nil ?_
    show Code.wp _ _ _ _ _
    refine cond rfl (fun c14 => ?_) (fun c14 => ?_)
    ·
      simp only [Bool.and_eq_true, Bool.or_eq_true, Bool.and_eq_false_iff, Bool.or_eq_false_iff, decide_eq_true_eq, decide_eq_false_iff_not, Bool.not_eq_true, Bool.not_eq_false, Bool.not_not, Bool.not_eq_eq_eq_not, Bool.not_true, Bool.not_false, Bool.false_eq_true, Bool.true_eq_false, ne_eq, Decidable.not_not, not_false_eq_true, not_true_eq_false] at c14
      obtain ⟨x, hx, hd⟩ := drop_of (l := la) (k := k) (by omega)
      obtain ⟨b, o, cs, ha, hlen, hcs, hR⟩ := hela (k) (by omega)
      obtain rfl : x = la[k] := (List.getElem?_eq_some_iff.1 hx).2.symm
      generalize la[k] = x at hx hd hR
      obtain ⟨rfl, _, _⟩ := hR
      obtain ⟨y, hxq, hdq⟩ := drop_of (l := lb) (k := k) (by omega)
      obtain ⟨bq, oq, csq, haq, hlenq, hcsq, hRq⟩ := helb (k) (by omega)
      obtain rfl : y = lb[k] := (List.getElem?_eq_some_iff.1 hxq).2.symm
      generalize lb[k] = y at hxq hdq hRq
      obtain ⟨rfl, _, _⟩ := hRq
      refine skip ?_
      show Code.wp _ _ _ _ _
      refine seq ?_
      refine block ?_
      refine seq ?_
      refine region_draw mixed (by kernel_rfl) hS ?_
      refine qv (fun w hS => (yMove h0)) ?_
      refine qv (fun w hS => (yMove h5)) ?_
      refine qv (fun w hS => (yIxa rfl ha rfl Try.runUnderlying61 Try.sizeOf38 (by omega) (by omega))) ?_
      refine qv (fun w hS => (yLdA rfl Try.isAgg38 Try.sizeOf38 (hcs.ext hS.ext) rfl)) ?_
      refine qv (fun w hS => (yMove h1)) ?_
      refine qv (fun w hS => (yMove h5)) ?_
      refine qv (fun w hS => (yIxa rfl haq rfl Try.runUnderlying61 Try.sizeOf38 (by omega) (by omega))) ?_
      refine qv (fun w hS => (yLdA rfl Try.isAgg38 Try.sizeOf38 (hcsq.ext hS.ext) rfl)) ?_
      refine qv (fun w hS => (neS38 rfl rfl)) ?_
      clear hS; refine qnil (fun w hS => ?_)
      show Code.wp _ _ _ _ _
      refine cond rfl (fun c25 => ?_) (fun c25 => ?_)
      ·
        simp only [Bool.and_eq_true, Bool.or_eq_true, Bool.and_eq_false_iff, Bool.or_eq_false_iff, decide_eq_true_eq, decide_eq_false_iff_not, Bool.not_eq_true, Bool.not_eq_false, Bool.not_not, Bool.not_eq_eq_eq_not, Bool.not_true, Bool.not_false, Bool.false_eq_true, Bool.true_eq_false, ne_eq, Decidable.not_not, not_false_eq_true, not_true_eq_false] at c25
        have hne : x ≠ y := fun h => by subst h; simp at c25
        refine seq ?_
        refine region ?_
        refine sv (yAsg rfl) ?_
        refine nil ?_
        show Code.wp _ _ _ _ _
        refine wp_ret (blockR (thenR (thenR (blockR (thenR ?_)))))
        exact retV (res1 rfl (eqB (by rw [decide_eq_false (ne_of_get hx hxq hne)]))) hS.ext
      ·
        simp only [Bool.and_eq_true, Bool.or_eq_true, Bool.and_eq_false_iff, Bool.or_eq_false_iff, decide_eq_true_eq, decide_eq_false_iff_not, Bool.not_eq_true, Bool.not_eq_false, Bool.not_not, Bool.not_eq_eq_eq_not, Bool.not_true, Bool.not_false, Bool.false_eq_true, Bool.true_eq_false, ne_eq, Decidable.not_not, not_false_eq_true, not_true_eq_false] at c25
        have hxy : x = y := by cases x; cases y; simp at c25; simp [c25]
        refine skip ?_
        show Code.wp _ _ _ _ _
        refine region ?_
        refine sv (yMove h5) ?_
        refine sv (yAdd rfl rfl ⟨by omega, by omega⟩) ?_
        refine sv (yAsg rfl) ?_
        refine nil ?_
        exact ⟨_, _, rfl, ⟨k + 1, h0, h1, rfl, hS, (by omega), (snoc hI (by rw [hx, hxq, hxy])), rfl⟩, by omega⟩
    ·
      simp only [Bool.and_eq_true, Bool.or_eq_true, Bool.and_eq_false_iff, Bool.or_eq_false_iff, decide_eq_true_eq, decide_eq_false_iff_not, Bool.not_eq_true, Bool.not_eq_false, Bool.not_not, Bool.not_eq_eq_eq_not, Bool.not_true, Bool.not_false, Bool.false_eq_true, Bool.true_eq_false, ne_eq, Decidable.not_not, not_false_eq_true, not_true_eq_false] at c14
      refine exit ?_
      show Code.wp _ _ _ _ _
      refine seq ?_
      refine region ?_
      refine sv (yAsg rfl) ?_
      refine nil ?_
      show Code.wp _ _ _ _ _
      refine wp_ret ?_
      exact retV (res1 rfl (eqB (by rw [decide_eq_true (eq_of_get (by omega) (fun i hi => hI i (by omega)))]))) hS.ext
/-- barrage/barrageref01.Ints -/
theorem c_Ints {la lb : List Int} {va vb : Value} {w0 : World} (ha : Sl w0 1 RInt va la) (hb : Sl w0 1 RInt vb lb) : CV Try.prog 41 #[va, vb] w0 (.bool (decide (la = lb))) := by
  obtain ⟨aa, ca, rfl, hca, hma, hela⟩ := ha
  obtain ⟨ab, cb, rfl, hcb, hmb, helb⟩ := hb
  refine enter Try.func41 rfl Try.ntmps41 rfl ?_
  have hS := St.start w0
  refine seq ?_
  refine region ?_
  refine sv (yAsg rfl) ?_
  refine nil ?_
  show Code.wp _ _ _ _ _
  refine seq ?_
  refine seq ?_
  refine region ?_
  refine sv (yMove rfl) ?_
  refine sv (yLen rfl Try.underlying44) ?_
  refine sv (yMove rfl) ?_
  refine sv (yLen rfl Try.underlying44) ?_
  refine sv (yNeq rfl rfl) ?_
  refine nil ?_
  show Code.wp _ _ _ _ _
  refine cond rfl (fun c10 => ?_) (fun c10 => ?_)
  ·
    simp only [Bool.and_eq_true, Bool.or_eq_true, Bool.and_eq_false_iff, Bool.or_eq_false_iff, decide_eq_true_eq, decide_eq_false_iff_not, Bool.not_eq_true, Bool.not_eq_false, Bool.not_not, Bool.not_eq_eq_eq_not, Bool.not_true, Bool.not_false, Bool.false_eq_true, Bool.true_eq_false, ne_eq, Decidable.not_not, not_false_eq_true, not_true_eq_false] at c10
    refine seq ?_
    refine region ?_
    refine sv (yAsg rfl) ?_
    refine nil ?_
    show Code.wp _ _ _ _ _
    refine wp_ret (thenR ?_)
    exact retV (res1 rfl (eqB (by rw [decide_eq_false (fun h => by rw [h] at c10; exact c10 rfl)]))) hS.ext
  ·
    simp only [Bool.and_eq_true, Bool.or_eq_true, Bool.and_eq_false_iff, Bool.or_eq_false_iff, decide_eq_true_eq, decide_eq_false_iff_not, Bool.not_eq_true, Bool.not_eq_false, Bool.not_not, Bool.not_eq_eq_eq_not, Bool.not_true, Bool.not_false, Bool.false_eq_true, Bool.true_eq_false, ne_eq, Decidable.not_not, not_false_eq_true, not_true_eq_false] at c10
    refine skip ?_
    show Code.wp _ _ _ _ _
    refine seq ?_
    refine seq ?_
    refine region ?_
    refine sv (yAsg rfl) ?_
    refine nil ?_
    show Code.wp _ _ _ _ _
    refine block ?_
    refine loop (fun f w zz => ∃ (k : Nat), f 0 = .slice aa la.length ca ∧ f 1 = .slice ab lb.length cb ∧ f 5 = .int .i64 (k : Int) ∧ StX [] w0 w [] ∧ (k ≤ la.length) ∧ (∀ i, i < k → la[i]? = lb[i]?) ∧ zz = la.length - k) _ ⟨_, rfl, 0, rfl, rfl, rfl, hS, (Nat.zero_le _), (fun i hi => absurd hi (Nat.not_lt_zero i)), rfl⟩ ?_
    clear hS
    rintro f w _ ⟨k, h0, h1, h5, hS, hk, hI, rfl⟩
    refine seq ?_
    refine seq ?_
    refine region ?_
    refine sv (yMove h5) ?_
    refine sv (yMove h0) ?_
    refine sv (yLen rfl Try.underlying44) ?_
    refine sv (yLss rfl rfl) ?_
    refine nil ?_
    show Code.wp _ _ _ _ _
    refine cond rfl (fun c14 => ?_) (fun c14 => ?_)
    ·
      simp only [Bool.and_eq_true, Bool.or_eq_true, Bool.and_eq_false_iff, Bool.or_eq_false_iff, decide_eq_true_eq, decide_eq_false_iff_not, Bool.not_eq_true, Bool.not_eq_false, Bool.not_not, Bool.not_eq_eq_eq_not, Bool.not_true, Bool.not_false, Bool.false_eq_true, Bool.true_eq_false, ne_eq, Decidable.not_not, not_false_eq_true, not_true_eq_false] at c14
      obtain ⟨x, hx, hd⟩ := drop_of (l := la) (k := k) (by omega)
      obtain ⟨b, o, cs, ha, hlen, hcs, hR⟩ := hela (k) (by omega)
      obtain rfl : x = la[k] := (List.getElem?_eq_some_iff.1 hx).2.symm
      generalize la[k] = x at hx hd hR
      obtain ⟨rfl, _⟩ := hR
      obtain ⟨y, hxq, hdq⟩ := drop_of (l := lb) (k := k) (by omega)
      obtain ⟨bq, oq, csq, haq, hlenq, hcsq, hRq⟩ := helb (k) (by omega)
      obtain rfl : y = lb[k] := (List.getElem?_eq_some_iff.1 hxq).2.symm
      generalize lb[k] = y at hxq hdq hRq
      obtain ⟨rfl, _⟩ := hRq
      refine skip ?_
      show Code.wp _ _ _ _ _
      refine seq ?_
      refine block ?_
      refine seq ?_
      refine region_draw mixed (by kernel_rfl) hS ?_
      refine qv (fun w hS => (yMove h0)) ?_
      refine qv (fun w hS => (yMove h5)) ?_
      refine qv (fun w hS => (yIxa rfl ha rfl Try.runUnderlying44 Try.sizeOf3 (by omega) (by omega))) ?_
      refine qv (fun w hS => (yLd rfl Try.isAgg3 ((hcs.ext hS.ext).one))) ?_
      refine qv (fun w hS => (yMove h1)) ?_
      refine qv (fun w hS => (yMove h5)) ?_
      refine qv (fun w hS => (yIxa rfl haq rfl Try.runUnderlying44 Try.sizeOf3 (by omega) (by omega))) ?_
      refine qv (fun w hS => (yLd rfl Try.isAgg3 ((hcsq.ext hS.ext).one))) ?_
      refine qv (fun w hS => (yNeq rfl rfl)) ?_
      clear hS; refine qnil (fun w hS => ?_)
      show Code.wp _ _ _ _ _
      refine cond rfl (fun c25 => ?_) (fun c25 => ?_)
      ·
        simp only [Bool.and_eq_true, Bool.or_eq_true, Bool.and_eq_false_iff, Bool.or_eq_false_iff, decide_eq_true_eq, decide_eq_false_iff_not, Bool.not_eq_true, Bool.not_eq_false, Bool.not_not, Bool.not_eq_eq_eq_not, Bool.not_true, Bool.not_false, Bool.false_eq_true, Bool.true_eq_false, ne_eq, Decidable.not_not, not_false_eq_true, not_true_eq_false] at c25
        have hne : x ≠ y := fun h => by subst h; simp at c25
        refine seq ?_
        refine region ?_
        refine sv (yAsg rfl) ?_
        refine nil ?_
        show Code.wp _ _ _ _ _
        refine wp_ret (blockR (thenR (thenR (blockR (thenR ?_)))))
        exact retV (res1 rfl (eqB (by rw [decide_eq_false (ne_of_get hx hxq hne)]))) hS.ext
      ·
        simp only [Bool.and_eq_true, Bool.or_eq_true, Bool.and_eq_false_iff, Bool.or_eq_false_iff, decide_eq_true_eq, decide_eq_false_iff_not, Bool.not_eq_true, Bool.not_eq_false, Bool.not_not, Bool.not_eq_eq_eq_not, Bool.not_true, Bool.not_false, Bool.false_eq_true, Bool.true_eq_false, ne_eq, Decidable.not_not, not_false_eq_true, not_true_eq_false] at c25
        have hxy : x = y := c25
        refine skip ?_
        show Code.wp _ _ _ _ _
        refine region ?_
        refine sv (yMove h5) ?_
        refine sv (yAdd rfl rfl ⟨by omega, by omega⟩) ?_
        refine sv (yAsg rfl) ?_
        refine nil ?_
        exact ⟨_, _, rfl, ⟨k + 1, h0, h1, rfl, hS, (by omega), (snoc hI (by rw [hx, hxq, hxy])), rfl⟩, by omega⟩
    ·
      simp only [Bool.and_eq_true, Bool.or_eq_true, Bool.and_eq_false_iff, Bool.or_eq_false_iff, decide_eq_true_eq, decide_eq_false_iff_not, Bool.not_eq_true, Bool.not_eq_false, Bool.not_not, Bool.not_eq_eq_eq_not, Bool.not_true, Bool.not_false, Bool.false_eq_true, Bool.true_eq_false, ne_eq, Decidable.not_not, not_false_eq_true, not_true_eq_false] at c14
      refine exit ?_
      show Code.wp _ _ _ _ _
      refine seq ?_
      refine region ?_
      refine sv (yAsg rfl) ?_
      refine nil ?_
      show Code.wp _ _ _ _ _
      refine wp_ret ?_
      exact retV (res1 rfl (eqB (by rw [decide_eq_true (eq_of_get (by omega) (fun i hi => hI i (by omega)))]))) hS.ext
/-- barrage/tide.some -/
theorem c_some {a n : Int} {w0 : World} : CV Try.prog 74 #[.int .i64 a, .int .i64 n] w0 (.int .i64 (someE a n)) := by
  refine enter Try.func74 rfl Try.ntmps74 rfl ?_
  have hS := St.start w0
  refine seq ?_
  refine region ?_
  refine sv (yAsg rfl) ?_
  refine nil ?_
  show Code.wp _ _ _ _ _
  refine seq ?_
  refine block ?_
  refine seq ?_
  refine region ?_
  refine sv (yMove rfl) ?_
  refine scall Try.call54 (.cons rfl (.cons rfl (.cons rfl .nil))) c_out ?_
  rintro _ w ⟨rfl, hE⟩; replace hS := hS.step hE; clear hE
  refine sv (yAsg rfl) ?_
  refine nil ?_
  show Code.wp _ _ _ _ _
  refine cond rfl (fun c5 => ?_) (fun c5 => ?_)
  ·
    refine seq ?_
    refine region ?_
    refine sv (yAsg rfl) ?_
    refine nil ?_
    show Code.wp _ _ _ _ _
    refine wp_ret (blockR (thenR ?_))
    exact retV (res1 rfl (eqI (by unfold someE; rw [if_pos c5]))) hS.ext
  ·
    refine seq ?_
    refine region ?_
    refine sv (yMove rfl) ?_
    refine sv (yEql rfl rfl) ?_
    refine sv (yAsg rfl) ?_
    refine nil ?_
    show Code.wp _ _ _ _ _
    refine cond rfl (fun c8 => ?_) (fun c8 => ?_)
    ·
      simp only [Bool.and_eq_true, Bool.or_eq_true, Bool.and_eq_false_iff, Bool.or_eq_false_iff, decide_eq_true_eq, decide_eq_false_iff_not, Bool.not_eq_true, Bool.not_eq_false, Bool.not_not, Bool.not_eq_eq_eq_not, Bool.not_true, Bool.not_false, Bool.false_eq_true, Bool.true_eq_false, ne_eq, Decidable.not_not, not_false_eq_true, not_true_eq_false] at c8
      refine seq ?_
      refine region ?_
      refine sv (yAsg rfl) ?_
      refine nil ?_
      show Code.wp _ _ _ _ _
      refine wp_ret (blockR (thenR ?_))
      exact retV (res1 rfl (eqI (by unfold someE; rw [if_neg (by rw [c5]; decide), if_pos c8]))) hS.ext
    ·
      simp only [Bool.and_eq_true, Bool.or_eq_true, Bool.and_eq_false_iff, Bool.or_eq_false_iff, decide_eq_true_eq, decide_eq_false_iff_not, Bool.not_eq_true, Bool.not_eq_false, Bool.not_not, Bool.not_eq_eq_eq_not, Bool.not_true, Bool.not_false, Bool.false_eq_true, Bool.true_eq_false, ne_eq, Decidable.not_not, not_false_eq_true, not_true_eq_false] at c8
      refine seq ?_
      refine region ?_
      refine sv (yMove rfl) ?_
      refine scall Try.call54 (.cons rfl (.cons rfl (.cons rfl .nil))) c_out ?_
      rintro _ w ⟨rfl, hE⟩; replace hS := hS.step hE; clear hE
      refine sv (yAsg rfl) ?_
      refine nil ?_
      show Code.wp _ _ _ _ _
      refine cond rfl (fun c11 => ?_) (fun c11 => ?_)
      ·
        refine seq ?_
        refine region ?_
        refine sv (yAsg rfl) ?_
        refine nil ?_
        show Code.wp _ _ _ _ _
        refine wp_ret (blockR (thenR ?_))
        exact retV (res1 rfl (eqI (by unfold someE; rw [if_neg (by rw [c5]; decide), if_neg c8, if_pos c11]))) hS.ext
      ·
        have h5 := outB_false.1 c5
        have h11 := outB_false.1 c11
        refine skip ?_
        show Code.wp _ _ _ _ _
        refine seq ?_
        refine region ?_
        refine sv (yMove rfl) ?_
        refine sv (yMove rfl) ?_
        refine sv (yAdd rfl rfl ⟨by omega, by omega⟩) ?_
        refine sv (ySub rfl rfl ⟨by omega, by omega⟩) ?_
        refine sbslice hS Try.underlying44 Try.sizeOf3 rfl Try.zeroValue3 rfl (.cons rfl rfl .nil) rfl ?_; clear hS; intro b18 w hS
        refine scall Try.call68 (.cons rfl .nil) (c_ticks (l := [a + n - 1]) (ints_sl (l := [a + n - 1]) (hS.at b18) (by simp; exact ⟨by omega, by omega⟩) (Nat.le_of_ble_eq_true rfl))) ?_
        rintro _ w ⟨rfl, hE⟩; replace hS := hS.step hE; clear hE
        refine sv (yAsg rfl) ?_
        refine nil ?_
        show Code.wp _ _ _ _ _
        refine wp_ret ?_
        exact retV (res1 rfl (eqI (by unfold someE; rw [if_neg (by rw [c5]; decide), if_neg c8, if_neg (by rw [c11]; decide)]))) hS.ext
/-- barrage/barrageref01.some -/
theorem c_rsome {a n : Int} {w0 : World} : CV Try.prog 75 #[.int .i64 a, .int .i64 n] w0 (.int .i64 (someE a n)) := by
  refine enter Try.func75 rfl Try.ntmps75 rfl ?_
  have hS := St.start w0
  refine seq ?_
  refine region ?_
  refine sv (yAsg rfl) ?_
  refine nil ?_
  show Code.wp _ _ _ _ _
  refine seq ?_
  refine seq ?_
  refine region ?_
  refine sv (yMove rfl) ?_
  refine scall Try.call63 (.cons rfl (.cons rfl (.cons rfl .nil))) c_in ?_
  rintro _ w ⟨rfl, hE⟩; replace hS := hS.step hE; clear hE
  refine sv (yNot rfl) ?_
  refine nil ?_
  show Code.wp _ _ _ _ _
  refine cond rfl (fun c7 => ?_) (fun c7 => ?_)
  ·
    simp only [← outB_inB] at c7
    refine seq ?_
    refine region ?_
    refine sv (yAsg rfl) ?_
    refine nil ?_
    show Code.wp _ _ _ _ _
    refine wp_ret (thenR ?_)
    exact retV (res1 rfl (eqI (by unfold someE; rw [if_pos c7]))) hS.ext
  ·
    simp only [← outB_inB] at c7
    have h7 := outB_false.1 c7
    refine skip ?_
    show Code.wp _ _ _ _ _
    refine seq ?_
    refine seq ?_
    refine region ?_
    refine sv (yMove rfl) ?_
    refine sv (yGtr rfl rfl) ?_
    refine sv (yMove rfl) ?_
    refine sg rfl rfl rfl (fun g => (yMove rfl)) (fun v11 g11 => ?_)
    refine sgc hS rfl rfl rfl Try.call67 (fun g => (.cons (g11.1 g) .nil)) (fun g => c_tick) ?_; clear hS; intro v12 w hS g12
    refine sg rfl rfl rfl (fun g => (yNot (g12.1 g))) (fun v13 g13 => ?_)
    refine sg rfl rfl rfl (fun g => (yMove (g13.1 g))) (fun v14 g14 => ?_)
    refine sgg rfl rfl g14 (fun g => (yMove rfl)) (fun v15 g15 => ?_)
    refine sgg rfl rfl g14 (fun g => (yMove rfl)) (fun v16 g16 => ?_)
    have hin : ∀ {x : Prop} {b : Bool}, x ∧ b = false → x := fun h => h.1
    refine sgg rfl rfl g14 (fun g => (yAdd (g15.1 g) (g16.1 g) (by obtain ⟨g1, g2⟩ := g; have := inB_iff.1 (by simpa using g2); exact ⟨by omega, by omega⟩))) (fun v17 g17 => ?_)
    refine sgg rfl rfl g14 (fun g => (ySub (g17.1 g) rfl (by obtain ⟨g1, g2⟩ := g; have := inB_iff.1 (by simpa using g2); exact ⟨by omega, by omega⟩))) (fun v18 g18 => ?_)
    refine sggc hS rfl rfl g14 Try.call67 (fun g => (.cons (g18.1 g) .nil)) (fun g => c_tick) ?_; clear hS; intro v19 w hS g19
    refine sgg rfl rfl g14 (fun g => (yNot (g19.1 g))) (fun v20 g20 => ?_)
    refine sg rfl rfl rfl (fun g => (yOr (g14.1 g) rfl (fun hB => (g20.1 ⟨g, hB⟩)))) (fun v21 g21 => ?_)
    refine sv (yAnd rfl (fun hB => (g21.1 hB)) rfl) ?_
    refine nil ?_
    show Code.wp _ _ _ _ _
    refine cond rfl (fun c22 => ?_) (fun c22 => ?_)
    ·
      simp only [Bool.and_eq_true, Bool.or_eq_true, Bool.not_eq_true, Bool.and_eq_false_iff, Bool.or_eq_false_iff, decide_eq_true_eq, decide_eq_false_iff_not, Bool.not_eq_false', Bool.not_eq_true'] at c22
      refine seq ?_
      refine region ?_
      refine sv (yAsg rfl) ?_
      refine nil ?_
      show Code.wp _ _ _ _ _
      have hq : ¬ Bd a 0 200000 ∨ ¬ Bd (a + n - 1) 0 200000 := by
        rcases c22.2 with h | h
        · exact .inl (fun k => by rw [inB_iff.2 k] at h; cases h)
        · exact .inr (fun k => by rw [inB_iff.2 k] at h; cases h)
      have hfin : someE a n = 7 := by rw [someE_eq a n h7, if_pos ⟨c22.1, hq⟩]
      refine wp_ret (thenR ?_)
      exact retV (res1 rfl (eqI hfin)) hS.ext
    ·
      simp only [Bool.and_eq_true, Bool.or_eq_true, Bool.not_eq_true, Bool.and_eq_false_iff, Bool.or_eq_false_iff, decide_eq_true_eq, decide_eq_false_iff_not, Bool.not_eq_false', Bool.not_eq_true'] at c22
      refine skip ?_
      show Code.wp _ _ _ _ _
      refine seq ?_
      refine region ?_
      refine sv (yAsg rfl) ?_
      refine nil ?_
      show Code.wp _ _ _ _ _
      have hfin : someE a n = 0 := by
        rw [someE_eq a n h7, if_neg]
        rintro ⟨h1, h2⟩
        rcases c22 with h | ⟨h, k⟩
        · exact h h1
        · rcases h2 with h2 | h2
          · exact h2 (inB_iff.1 h)
          · exact h2 (inB_iff.1 k)
      refine wp_ret ?_
      exact retV (res1 rfl (eqI hfin)) hS.ext
/-- barrage/tide.parts -/
theorem c_parts0 {c : Const} {a : Option Addr} {cap : Nat} {tick : Int} {w0 : World} (hok : ConstOk c) : CE Try.prog 102 #[.agg [.string c.name, .slice a c.heights.length cap, .int .i64 c.off, .int .i64 c.step, .int .i64 c.den, .int .i64 c.slack].toArray, .int .i64 tick] w0 (fun v w' => ∃ bp bc pv, v = .func (.func 114) #[] [.pointer (some ⟨bp, 0, none⟩), .pointer (some ⟨bc, 0, none⟩)].toArray ∧ St w0 w' [blk bp [.int .i64 pv] 3, blk bc [.string c.name, .slice a c.heights.length cap, .int .i64 c.off, .int .i64 c.step, .int .i64 c.den, .int .i64 c.slack] 46]) := by
  refine enter Try.func102 rfl Try.ntmps102 rfl ?_
  have hS := St.start w0
  have hcy := cyc_pos hok
  refine seq ?_
  refine region ?_
  refine sbox hS rfl rfl ?_; clear hS; intro b2 w hS
  refine sv (yAsg rfl) ?_
  refine nil ?_
  show Code.wp _ _ _ _ _
  refine seq ?_
  refine region_any (C := (fun w => StX [] w0 w [blk b2 [.string c.name, .slice a c.heights.length cap, .int .i64 c.off, .int .i64 c.step, .int .i64 c.den, .int .i64 c.slack] 46])) mixed 8 11 (by kernel_rfl) (fun c a a' w h => by obtain ⟨_, v, hv, _⟩ := h; cases hv) hS (fun _ h => h) ?_
  clear hS; intro w hS
  refine hv (fun w hS => (fa46_2 rfl)) ?_
  refine hv (fun w hS => (yLdB rfl Try.isAgg3 (hS.at _) rfl)) ?_
  refine hv (fun w hS => (fa46_3 rfl)) ?_
  refine hv (fun w hS => (yLdB rfl Try.isAgg3 (hS.at _) rfl)) ?_
  refine hv (fun w hS => (yMove rfl)) ?_
  refine hv (fun w hS => (yMulW rfl rfl)) ?_
  refine hv (fun w hS => (yAddW rfl rfl)) ?_
  refine hv (fun w hS => (yLdBA rfl Try.isAgg46 Try.sizeOf46 (hS.at _) rfl rfl)) ?_
  refine hnil ?_
  show wpA _ _ _ _ _ _ _ _ _ _
  refine a_step (i := 8) (is := [10]) (by kernel_rfl) ⟨?_, ?_, trivial⟩
  ·
    refine ⟨_, rfl, ?_⟩
    refine scall Try.call61 (.cons rfl .nil) (c_cycle ⟨by omega, by omega⟩) ?_
    rintro _ w ⟨rfl, hE⟩; replace hS := hS.step hE; clear hE
    refine nil ?_
    refine ⟨fun _ => hS.sub (List.Sublist.refl _), ?_⟩
    show wpA _ _ _ _ _ _ _ _ _ _
    refine a_step (i := 9) (is := [10]) (by kernel_rfl) ⟨?_, ?_, trivial⟩
    ·
      refine ⟨_, rfl, ?_⟩
      refine sv (yRem rfl rfl (by omega)) ?_
      refine nil ?_
      refine ⟨fun _ => hS.sub (List.Sublist.refl _), ?_⟩
      show wpA _ _ _ _ _ _ _ _ _ _
      refine a_step (i := 10) (is := []) (by kernel_rfl) ⟨?_, trivial⟩
      refine ⟨_, rfl, ?_⟩
      refine salloc hS Try.zeroValue3 rfl ?_; clear hS; intro b5 w hS
      refine nil ?_
      refine ⟨fun _ => hS.sub (.cons _ (List.Sublist.refl _)), ?_⟩
      show wpA _ _ _ _ _ _ _ _ _ _
      refine a_step (i := 11) (is := []) (by kernel_rfl) ⟨?_, trivial⟩
      refine ⟨_, rfl, ?_⟩
      refine sst hS rfl rfl Try.sizeOf3 rfl rfl rfl rfl ?_; clear hS; intro w hS
      refine nil ?_
      refine ⟨fun h => absurd h (by decide), ?_⟩
      show wpA _ _ _ _ _ _ _ _ _ _
      refine a_end (by kernel_rfl) ?_
      show Code.wp _ _ _ _ _
      refine seq ?_
      refine region ?_
      refine sv (yFn (.cons rfl (.cons rfl .nil))) ?_
      refine sv (yAsg rfl) ?_
      refine nil ?_
      show Code.wp _ _ _ _ _
      refine wp_ret ?_
      refine retQ (res1 rfl rfl) ?_
      exact ⟨b5, b2, _, rfl, hS⟩
    ·
      refine ⟨_, rfl, ?_⟩
      refine salloc hS Try.zeroValue3 rfl ?_; clear hS; intro b5 w hS
      refine nil ?_
      refine ⟨fun _ => hS.sub (.cons _ (List.Sublist.refl _)), ?_⟩
      show wpA _ _ _ _ _ _ _ _ _ _
      refine a_step (i := 9) (is := []) (by kernel_rfl) ⟨?_, trivial⟩
      refine ⟨_, rfl, ?_⟩
      refine sv (yRem rfl rfl (by omega)) ?_
      refine nil ?_
      refine ⟨fun _ => hS.sub (.cons _ (List.Sublist.refl _)), ?_⟩
      show wpA _ _ _ _ _ _ _ _ _ _
      refine a_step (i := 11) (is := []) (by kernel_rfl) ⟨?_, trivial⟩
      refine ⟨_, rfl, ?_⟩
      refine sst hS rfl rfl Try.sizeOf3 rfl rfl rfl rfl ?_; clear hS; intro w hS
      refine nil ?_
      refine ⟨fun h => absurd h (by decide), ?_⟩
      show wpA _ _ _ _ _ _ _ _ _ _
      refine a_end (by kernel_rfl) ?_
      show Code.wp _ _ _ _ _
      refine seq ?_
      refine region ?_
      refine sv (yFn (.cons rfl (.cons rfl .nil))) ?_
      refine sv (yAsg rfl) ?_
      refine nil ?_
      show Code.wp _ _ _ _ _
      refine wp_ret ?_
      refine retQ (res1 rfl rfl) ?_
      exact ⟨b5, b2, _, rfl, hS⟩
  ·
    refine ⟨_, rfl, ?_⟩
    refine salloc hS Try.zeroValue3 rfl ?_; clear hS; intro b5 w hS
    refine nil ?_
    refine ⟨fun _ => hS.sub (.cons _ (List.Sublist.refl _)), ?_⟩
    show wpA _ _ _ _ _ _ _ _ _ _
    refine a_step (i := 8) (is := []) (by kernel_rfl) ⟨?_, trivial⟩
    refine ⟨_, rfl, ?_⟩
    refine scall Try.call61 (.cons rfl .nil) (c_cycle ⟨by omega, by omega⟩) ?_
    rintro _ w ⟨rfl, hE⟩; replace hS := hS.step hE; clear hE
    refine nil ?_
    refine ⟨fun _ => hS.sub (.cons _ (List.Sublist.refl _)), ?_⟩
    show wpA _ _ _ _ _ _ _ _ _ _
    refine a_step (i := 9) (is := []) (by kernel_rfl) ⟨?_, trivial⟩
    refine ⟨_, rfl, ?_⟩
    refine sv (yRem rfl rfl (by omega)) ?_
    refine nil ?_
    refine ⟨fun _ => hS.sub (.cons _ (List.Sublist.refl _)), ?_⟩
    show wpA _ _ _ _ _ _ _ _ _ _
    refine a_step (i := 11) (is := []) (by kernel_rfl) ⟨?_, trivial⟩
    refine ⟨_, rfl, ?_⟩
    refine sst hS rfl rfl Try.sizeOf3 rfl rfl rfl rfl ?_; clear hS; intro w hS
    refine nil ?_
    refine ⟨fun h => absurd h (by decide), ?_⟩
    show wpA _ _ _ _ _ _ _ _ _ _
    refine a_end (by kernel_rfl) ?_
    show Code.wp _ _ _ _ _
    refine seq ?_
    refine region ?_
    refine sv (yFn (.cons rfl (.cons rfl .nil))) ?_
    refine sv (yAsg rfl) ?_
    refine nil ?_
    show Code.wp _ _ _ _ _
    refine wp_ret ?_
    refine retQ (res1 rfl rfl) ?_
    exact ⟨b5, b2, _, rfl, hS⟩
set_option maxHeartbeats 1000000 in
/-- barrage/tide.levels -/
theorem c_levels0 {t : Table} {cv : Value} {from_ : Int} {w0 : World} (hsl : Sl w0 6 RConst cv t.consts) (hok : TableOk t) : CE Try.prog 71 #[.agg [.int .i64 t.mean, cv].toArray, .int .i64 from_, .int .i64 0] w0 (fun v w' => v = .slice none 0 0 ∧ Ext w0 w') := by
  obtain ⟨a, cap, rfl, hcap, hmx, hel⟩ := hsl
  have hmean := hok.mean
  have hlen12 := hok.len
  refine enter Try.func71 rfl Try.ntmps71 rfl ?_
  have hS := St.start w0
  refine seq ?_
  refine region ?_
  refine sbox hS rfl rfl ?_; clear hS; intro b3 w hS
  refine sv (yAsg rfl) ?_
  refine nil ?_
  show Code.wp _ _ _ _ _
  refine seq ?_
  refine region ?_
  refine sv (yMove rfl) ?_
  refine smake (bytes := 16) (zs := [.int .i64 0, .int .i64 0]) (m := 0) hS rfl rfl Try.underlying136 ti127 rfl rfl rfl rfl rfl (by omega) (by omega) ?_; clear hS; intro b17 w hS
  refine sv (yAsg rfl) ?_
  refine nil ?_
  show Code.wp _ _ _ _ _
  refine seq ?_
  refine seq ?_
  refine region ?_
  refine sv (yMove rfl) ?_
  refine sv (yLen rfl Try.underlying136) ?_
  refine sv (yMove rfl) ?_
  refine nil ?_
  show Code.wp _ _ _ _ _
  refine block ?_
  refine loop (fun f w zz => f 1 = .int .i64 from_ ∧ f 3 = .pointer (some ⟨b3, 0, none⟩) ∧ f 7 = .slice (some ⟨b17, 0, none⟩) 0 0 ∧ f 19 = .int .i64 0 ∧ f 20 = .int .i64 0 ∧ StX [] w0 w [blk b3 [.int .i64 t.mean, .slice a t.consts.length cap] 24] ∧ zz = 0) _ ⟨_, rfl, rfl, rfl, rfl, rfl, rfl, (hS.sub (.cons _ (List.Sublist.refl _))), rfl⟩ ?_
  clear hS
  rintro f w _ ⟨h1, h3, h7, h19, h20, hS, rfl⟩
  refine seq ?_
  refine region ?_
  refine sv (yLss h20 h19) ?_
  refine nil ?_
  show Code.wp _ _ _ _ _
  refine seq ?_
  refine cond rfl (fun c21 => ?_) (fun c21 => ?_)
  ·
    simp only [Bool.and_eq_true, Bool.or_eq_true, Bool.and_eq_false_iff, Bool.or_eq_false_iff, decide_eq_true_eq, decide_eq_false_iff_not, Bool.not_eq_true, Bool.not_eq_false, Bool.not_not, Bool.not_eq_eq_eq_not, Bool.not_true, Bool.not_false, Bool.false_eq_true, Bool.true_eq_false, ne_eq, Decidable.not_not, not_false_eq_true, not_true_eq_false] at c21
    omega
  ·
    simp only [Bool.and_eq_true, Bool.or_eq_true, Bool.and_eq_false_iff, Bool.or_eq_false_iff, decide_eq_true_eq, decide_eq_false_iff_not, Bool.not_eq_true, Bool.not_eq_false, Bool.not_not, Bool.not_eq_eq_eq_not, Bool.not_true, Bool.not_false, Bool.false_eq_true, Bool.true_eq_false, ne_eq, Decidable.not_not, not_false_eq_true, not_true_eq_false] at c21
    refine exit ?_
    show Code.wp _ _ _ _ _
    refine seq ?_
    refine seq ?_
    refine region ?_
    refine sv (fa24_1 h3) ?_
    refine sv (yLdB rfl Try.isAgg22 (hS.at _) rfl) ?_
    refine sv (yLen rfl Try.underlying22) ?_
    refine sv (yMove rfl) ?_
    refine nil ?_
    show Code.wp _ _ _ _ _
    refine block ?_
    refine loop (fun f w zz => ∃ (k : Nat), f 1 = .int .i64 from_ ∧ f 7 = .slice (some ⟨b17, 0, none⟩) 0 0 ∧ f 34 = .slice a t.consts.length cap ∧ f 35 = .int .i64 (t.consts.length : Int) ∧ f 36 = .int .i64 (k : Int) ∧ StX [] w0 w [] ∧ (k ≤ t.consts.length) ∧ zz = t.consts.length - k) _ ⟨_, rfl, 0, h1, h7, rfl, rfl, rfl, (hS.sub (List.nil_sublist _)), (Nat.zero_le _), rfl⟩ ?_
    clear hS
    rintro f w _ ⟨k, h1, h7, h34, h35, h36, hS, hk, rfl⟩
    refine seq ?_
    refine region ?_
    refine sv (yLss h36 h35) ?_
    refine nil ?_
    show Code.wp _ _ _ _ _
    refine seq ?_
    refine cond rfl (fun c37 => ?_) (fun c37 => ?_)
    ·
      simp only [Bool.and_eq_true, Bool.or_eq_true, Bool.and_eq_false_iff, Bool.or_eq_false_iff, decide_eq_true_eq, decide_eq_false_iff_not, Bool.not_eq_true, Bool.not_eq_false, Bool.not_not, Bool.not_eq_eq_eq_not, Bool.not_true, Bool.not_false, Bool.false_eq_true, Bool.true_eq_false, ne_eq, Decidable.not_not, not_false_eq_true, not_true_eq_false] at c37
      refine skip ?_
      show Code.wp _ _ _ _ _
      refine seq ?_
      refine block ?_
      refine seq ?_
      refine region ?_
      obtain ⟨c, hx, hd⟩ := drop_of (l := t.consts) (k := k) (by omega)
      obtain ⟨b, o, cs, ha, hlen, hcs, hR⟩ := hel (k) (by omega)
      obtain rfl : c = t.consts[k] := (List.getElem?_eq_some_iff.1 hx).2.symm
      generalize t.consts[k] = c at hx hd hR
      obtain ⟨hv, rfl, hn1, hsl1, _, _, _, _⟩ := hR
      have hcok : ConstOk c := hok.consts c (List.mem_of_getElem? hx)
      obtain ⟨a1, cap1, rfl, hq1, hq2, hq3⟩ := id hsl1
      refine sv (yIxa h34 ha h36 Try.runUnderlying22 Try.sizeOf46 (by omega) (by omega)) ?_
      refine sv (yLdA rfl Try.isAgg46 Try.sizeOf46 (hcs.ext hS.ext) rfl) ?_
      refine salloc hS Try.zeroValue46 rfl ?_; clear hS; intro b10 w hS
      refine sst hS rfl rfl Try.sizeOf46 rfl rfl rfl rfl ?_; clear hS; intro w hS
      refine nil ?_
      show Code.wp _ _ _ _ _
      refine seq ?_
      refine region ?_
      refine sv (yLdBA rfl Try.isAgg46 Try.sizeOf46 (hS.at _) rfl rfl) ?_
      refine sv (yMove h1) ?_
      refine scall Try.call102 (.cons rfl (.cons rfl .nil)) (c_parts0 hcok) ?_
      rintro _ w ⟨bp, bc, pv, rfl, hM⟩; replace hS := hS.call hM; clear hM
      refine sv (yAsg rfl) ?_
      refine nil ?_
      show Code.wp _ _ _ _ _
      refine seq ?_
      refine region ?_
      refine sv (yMove h7) ?_
      refine sv (yLen rfl Try.underlying136) ?_
      refine sv (yMove rfl) ?_
      refine nil ?_
      show Code.wp _ _ _ _ _
      refine block ?_
      refine loop (fun f w zz => f 1 = .int .i64 from_ ∧ f 7 = .slice (some ⟨b17, 0, none⟩) 0 0 ∧ f 34 = .slice a t.consts.length cap ∧ f 35 = .int .i64 (t.consts.length : Int) ∧ f 36 = .int .i64 (k : Int) ∧ f 44 = .int .i64 0 ∧ f 45 = .int .i64 0 ∧ StX [] w0 w [] ∧ zz = 0) _ ⟨_, rfl, h1, h7, h34, h35, h36, rfl, rfl, (hS.sub (List.nil_sublist _)), rfl⟩ ?_
      clear hS
      rintro f w _ ⟨h1, h7, h34, h35, h36, h44, h45, hS, rfl⟩
      refine seq ?_
      refine region ?_
      refine sv (yLss h45 h44) ?_
      refine nil ?_
      show Code.wp _ _ _ _ _
      refine seq ?_
      refine cond rfl (fun c46 => ?_) (fun c46 => ?_)
      ·
        simp only [Bool.and_eq_true, Bool.or_eq_true, Bool.and_eq_false_iff, Bool.or_eq_false_iff, decide_eq_true_eq, decide_eq_false_iff_not, Bool.not_eq_true, Bool.not_eq_false, Bool.not_not, Bool.not_eq_eq_eq_not, Bool.not_true, Bool.not_false, Bool.false_eq_true, Bool.true_eq_false, ne_eq, Decidable.not_not, not_false_eq_true, not_true_eq_false] at c46
        omega
      ·
        simp only [Bool.and_eq_true, Bool.or_eq_true, Bool.and_eq_false_iff, Bool.or_eq_false_iff, decide_eq_true_eq, decide_eq_false_iff_not, Bool.not_eq_true, Bool.not_eq_false, Bool.not_not, Bool.not_eq_eq_eq_not, Bool.not_true, Bool.not_false, Bool.false_eq_true, Bool.true_eq_false, ne_eq, Decidable.not_not, not_false_eq_true, not_true_eq_false] at c46
        refine exit ?_
        show Code.wp _ _ _ _ _
        refine region ?_
        refine sv (yAdd h36 rfl ⟨by omega, by omega⟩) ?_
        refine sv (yMove rfl) ?_
        refine nil ?_
        exact ⟨_, _, rfl, ⟨k + 1, h1, h7, h34, h35, rfl, (hS.sub (List.nil_sublist _)), (by omega), rfl⟩, by omega⟩
    ·
      simp only [Bool.and_eq_true, Bool.or_eq_true, Bool.and_eq_false_iff, Bool.or_eq_false_iff, decide_eq_true_eq, decide_eq_false_iff_not, Bool.not_eq_true, Bool.not_eq_false, Bool.not_not, Bool.not_eq_eq_eq_not, Bool.not_true, Bool.not_false, Bool.false_eq_true, Bool.true_eq_false, ne_eq, Decidable.not_not, not_false_eq_true, not_true_eq_false] at c37
      refine exit ?_
      show Code.wp _ _ _ _ _
      refine seq ?_
      refine region ?_
      refine sv (yAsg rfl) ?_
      refine nil ?_
      show Code.wp _ _ _ _ _
      refine seq ?_
      refine seq ?_
      refine region ?_
      refine sv (yMove h7) ?_
      refine sv (yLen rfl Try.underlying136) ?_
      refine sv (yMove rfl) ?_
      refine nil ?_
      show Code.wp _ _ _ _ _
      refine block ?_
      refine loop (fun f w zz => f 13 = .slice none 0 0 ∧ f 57 = .int .i64 0 ∧ f 58 = .int .i64 0 ∧ StX [] w0 w [] ∧ zz = 0) _ ⟨_, rfl, rfl, rfl, rfl, (hS.sub (List.nil_sublist _)), rfl⟩ ?_
      clear hS
      rintro f w _ ⟨h13, h57, h58, hS, rfl⟩
      refine seq ?_
      refine region ?_
      refine sv (yLss h58 h57) ?_
      refine nil ?_
      show Code.wp _ _ _ _ _
      refine seq ?_
      refine cond rfl (fun c59 => ?_) (fun c59 => ?_)
      ·
        simp only [Bool.and_eq_true, Bool.or_eq_true, Bool.and_eq_false_iff, Bool.or_eq_false_iff, decide_eq_true_eq, decide_eq_false_iff_not, Bool.not_eq_true, Bool.not_eq_false, Bool.not_not, Bool.not_eq_eq_eq_not, Bool.not_true, Bool.not_false, Bool.false_eq_true, Bool.true_eq_false, ne_eq, Decidable.not_not, not_false_eq_true, not_true_eq_false] at c59
        omega
      ·
        simp only [Bool.and_eq_true, Bool.or_eq_true, Bool.and_eq_false_iff, Bool.or_eq_false_iff, decide_eq_true_eq, decide_eq_false_iff_not, Bool.not_eq_true, Bool.not_eq_false, Bool.not_not, Bool.not_eq_eq_eq_not, Bool.not_true, Bool.not_false, Bool.false_eq_true, Bool.true_eq_false, ne_eq, Decidable.not_not, not_false_eq_true, not_true_eq_false] at c59
        refine exit ?_
        show Code.wp _ _ _ _ _
        refine seq ?_
        refine region ?_
        refine sv (yMove h13) ?_
        refine sv (yAsg rfl) ?_
        refine nil ?_
        show Code.wp _ _ _ _ _
        refine wp_ret ?_
        refine retQ (res1 rfl rfl) ?_
        exact ⟨rfl, hS.ext⟩
end Go.Proofs.Ytpgmehignepidaa
/- part Wk14 -/
namespace Go.Proofs.Ytpgmehignepidaa
open Go Bx
/-- barrage/tide.Levels -/
theorem c_LevelsP {t : Table} {cs : List Value} {a n : Int} {w0 : World} (ht : RTable w0 cs t) (hn : n ≠ 0) : CE Try.prog 34 #[.agg cs.toArray, .int .i64 a, .int .i64 n] w0 (fun v w' => ∃ sv, v = .tuple #[sv, .int .i64 (levelsE t a n)] ∧ St w0 w' [rowI sv 38 2 (levelsF t a n).length ((levelsF t a n).flatMap spanC)]) := by
  obtain ⟨cv, rfl, hmean, hsl⟩ := id ht
  obtain ⟨aa, cap, rfl, hcap, hmx, hel⟩ := id hsl
  refine enter Try.func34 rfl Try.ntmps34 rfl ?_
  have hS := St.start w0
  refine seq ?_
  refine region ?_
  refine sbox hS rfl rfl ?_; clear hS; intro b3 w hS
  refine sv (yAsg rfl) ?_
  refine sv (yAsg rfl) ?_
  refine nil ?_
  show Code.wp _ _ _ _ _
  refine seq ?_
  refine region ?_
  refine sv (yLdBA rfl Try.isAgg24 Try.sizeOf24 (hS.at _) rfl rfl) ?_
  refine scall Try.call19 (.cons rfl .nil) (c_Check (ht.ext hS.ext)) ?_
  rintro _ w ⟨rfl, hE⟩; replace hS := hS.step hE; clear hE
  refine sv (yMove rfl) ?_
  refine sv (yExt rfl rfl) ?_
  refine sv (yExt rfl rfl) ?_
  refine sv (yAsg rfl) ?_
  refine sv (yAsg rfl) ?_
  refine nil ?_
  show Code.wp _ _ _ _ _
  refine seq ?_
  refine seq ?_
  refine region ?_
  refine sv (yMove rfl) ?_
  refine sv (yEql rfl rfl) ?_
  refine nil ?_
  show Code.wp _ _ _ _ _
  refine cond rfl (fun c16 => ?_) (fun c16 => ?_)
  ·
    simp only [Bool.and_eq_true, Bool.or_eq_true, Bool.and_eq_false_iff, Bool.or_eq_false_iff, decide_eq_true_eq, decide_eq_false_iff_not, Bool.not_eq_true, Bool.not_eq_false, Bool.not_not, Bool.not_eq_eq_eq_not, Bool.not_true, Bool.not_false, Bool.false_eq_true, Bool.true_eq_false, ne_eq, Decidable.not_not, not_false_eq_true, not_true_eq_false] at c16
    have hE := levelsE_good (a := a) (n := n) c16
    refine region ?_
    refine sv (yMove rfl) ?_
    refine sv (yMove rfl) ?_
    refine scall Try.call74 (.cons rfl (.cons rfl .nil)) c_some ?_
    rintro _ w ⟨rfl, hE⟩; replace hS := hS.step hE; clear hE
    refine sv (yAsg rfl) ?_
    refine nil ?_
    show Code.wp _ _ _ _ _
    refine seq ?_
    refine seq ?_
    refine region ?_
    refine sv (yMove rfl) ?_
    refine sv (yNeq rfl rfl) ?_
    refine nil ?_
    show Code.wp _ _ _ _ _
    refine cond rfl (fun c21 => ?_) (fun c21 => ?_)
    ·
      simp only [Bool.and_eq_true, Bool.or_eq_true, Bool.and_eq_false_iff, Bool.or_eq_false_iff, decide_eq_true_eq, decide_eq_false_iff_not, Bool.not_eq_true, Bool.not_eq_false, Bool.not_not, Bool.not_eq_eq_eq_not, Bool.not_true, Bool.not_false, Bool.false_eq_true, Bool.true_eq_false, ne_eq, Decidable.not_not, not_false_eq_true, not_true_eq_false] at c21
      refine seq ?_
      refine region ?_
      refine sv (yMove rfl) ?_
      refine sv (yAsg rfl) ?_
      refine sv (yAsg rfl) ?_
      refine nil ?_
      show Code.wp _ _ _ _ _
      refine wp_ret (thenR ?_)
      refine retQ (res2 rfl rfl rfl) ?_
      refine ⟨.slice none 0 0, by rw [hE]; rfl, ?_⟩
      rw [levelsF_bad (by rw [hE]; exact c21)]
      exact (hS.sub (List.nil_sublist _)).nilrow 38 2
    ·
      simp only [Bool.and_eq_true, Bool.or_eq_true, Bool.and_eq_false_iff, Bool.or_eq_false_iff, decide_eq_true_eq, decide_eq_false_iff_not, Bool.not_eq_true, Bool.not_eq_false, Bool.not_not, Bool.not_eq_eq_eq_not, Bool.not_true, Bool.not_false, Bool.false_eq_true, Bool.true_eq_false, ne_eq, Decidable.not_not, not_false_eq_true, not_true_eq_false] at c21
      have hok := tableOk_of c16
      have hz := hE.trans c21
      obtain ⟨_, hz2, hz3⟩ := levelsE_zero hz
      obtain ⟨m, rfl⟩ := Int.eq_ofNat_of_zero_le hz2.1
      refine skip ?_
      show Code.wp _ _ _ _ _
      refine seq ?_
      refine region ?_
      refine sv (yLdBA rfl Try.isAgg24 Try.sizeOf24 (hS.at _) rfl rfl) ?_
      refine sv (yMove rfl) ?_
      refine sv (yMove rfl) ?_
      refine scall Try.call71 (.cons rfl (.cons rfl (.cons rfl .nil))) (c_levels (n := m) (hsl.ext RConst.stays hS.ext) hok (hz3 hn).1 (by omega)) ?_
      rintro v w hM; replace hS := hS.call1 hM; clear hM
      refine sv (yAsg rfl) ?_
      refine sv (yAsg rfl) ?_
      refine nil ?_
      show Code.wp _ _ _ _ _
      refine wp_ret ?_
      refine retQ (res2 rfl rfl rfl) ?_
      refine ⟨v, by rw [hz]; rfl, ?_⟩
      rw [levelsF_good hz, show (lvlsL t a (m : Int).toNat).length = m from lvlsL_len t a m]
      exact hS.sub (.cons_cons _ (List.nil_sublist _))
  ·
    simp only [Bool.and_eq_true, Bool.or_eq_true, Bool.and_eq_false_iff, Bool.or_eq_false_iff, decide_eq_true_eq, decide_eq_false_iff_not, Bool.not_eq_true, Bool.not_eq_false, Bool.not_not, Bool.not_eq_eq_eq_not, Bool.not_true, Bool.not_false, Bool.false_eq_true, Bool.true_eq_false, ne_eq, Decidable.not_not, not_false_eq_true, not_true_eq_false] at c16
    have hE := levelsE_bad (a := a) (n := n) c16
    refine skip ?_
    show Code.wp _ _ _ _ _
    refine seq ?_
    refine seq ?_
    refine region ?_
    refine sv (yMove rfl) ?_
    refine sv (yNeq rfl rfl) ?_
    refine nil ?_
    show Code.wp _ _ _ _ _
    refine cond rfl (fun c21 => ?_) (fun c21 => ?_)
    ·
      simp only [Bool.and_eq_true, Bool.or_eq_true, Bool.and_eq_false_iff, Bool.or_eq_false_iff, decide_eq_true_eq, decide_eq_false_iff_not, Bool.not_eq_true, Bool.not_eq_false, Bool.not_not, Bool.not_eq_eq_eq_not, Bool.not_true, Bool.not_false, Bool.false_eq_true, Bool.true_eq_false, ne_eq, Decidable.not_not, not_false_eq_true, not_true_eq_false] at c21
      refine seq ?_
      refine region ?_
      refine sv (yMove rfl) ?_
      refine sv (yAsg rfl) ?_
      refine sv (yAsg rfl) ?_
      refine nil ?_
      show Code.wp _ _ _ _ _
      refine wp_ret (thenR ?_)
      refine retQ (res2 rfl rfl rfl) ?_
      refine ⟨.slice none 0 0, by rw [hE]; rfl, ?_⟩
      rw [levelsF_bad (by rw [hE]; exact c21)]
      exact (hS.sub (List.nil_sublist _)).nilrow 38 2
    ·
      simp only [Bool.and_eq_true, Bool.or_eq_true, Bool.and_eq_false_iff, Bool.or_eq_false_iff, decide_eq_true_eq, decide_eq_false_iff_not, Bool.not_eq_true, Bool.not_eq_false, Bool.not_not, Bool.not_eq_eq_eq_not, Bool.not_true, Bool.not_false, Bool.false_eq_true, Bool.true_eq_false, ne_eq, Decidable.not_not, not_false_eq_true, not_true_eq_false] at c21
      exact absurd c21 c16
/-- barrage/tide.Levels -/
theorem c_Levels0 {t : Table} {cs : List Value} {a n : Int} {w0 : World} (ht : RTable w0 cs t) : CE Try.prog 34 #[.agg cs.toArray, .int .i64 a, .int .i64 0] w0 (fun v w' => ∃ sv, v = .tuple #[sv, .int .i64 (levelsE t a 0)] ∧ St w0 w' [rowI sv 38 2 (levelsF t a 0).length ((levelsF t a 0).flatMap spanC)]) := by
  obtain ⟨cv, rfl, hmean, hsl⟩ := id ht
  obtain ⟨aa, cap, rfl, hcap, hmx, hel⟩ := id hsl
  refine enter Try.func34 rfl Try.ntmps34 rfl ?_
  have hS := St.start w0
  refine seq ?_
  refine region ?_
  refine sbox hS rfl rfl ?_; clear hS; intro b3 w hS
  refine sv (yAsg rfl) ?_
  refine sv (yAsg rfl) ?_
  refine nil ?_
  show Code.wp _ _ _ _ _
  refine seq ?_
  refine region ?_
  refine sv (yLdBA rfl Try.isAgg24 Try.sizeOf24 (hS.at _) rfl rfl) ?_
  refine scall Try.call19 (.cons rfl .nil) (c_Check (ht.ext hS.ext)) ?_
  rintro _ w ⟨rfl, hE⟩; replace hS := hS.step hE; clear hE
  refine sv (yMove rfl) ?_
  refine sv (yExt rfl rfl) ?_
  refine sv (yExt rfl rfl) ?_
  refine sv (yAsg rfl) ?_
  refine sv (yAsg rfl) ?_
  refine nil ?_
  show Code.wp _ _ _ _ _
  refine seq ?_
  refine seq ?_
  refine region ?_
  refine sv (yMove rfl) ?_
  refine sv (yEql rfl rfl) ?_
  refine nil ?_
  show Code.wp _ _ _ _ _
  refine cond rfl (fun c16 => ?_) (fun c16 => ?_)
  ·
    simp only [Bool.and_eq_true, Bool.or_eq_true, Bool.and_eq_false_iff, Bool.or_eq_false_iff, decide_eq_true_eq, decide_eq_false_iff_not, Bool.not_eq_true, Bool.not_eq_false, Bool.not_not, Bool.not_eq_eq_eq_not, Bool.not_true, Bool.not_false, Bool.false_eq_true, Bool.true_eq_false, ne_eq, Decidable.not_not, not_false_eq_true, not_true_eq_false] at c16
    have hE := levelsE_good (a := a) (n := 0) c16
    refine region ?_
    refine sv (yMove rfl) ?_
    refine sv (yMove rfl) ?_
    refine scall Try.call74 (.cons rfl (.cons rfl .nil)) c_some ?_
    rintro _ w ⟨rfl, hE⟩; replace hS := hS.step hE; clear hE
    refine sv (yAsg rfl) ?_
    refine nil ?_
    show Code.wp _ _ _ _ _
    refine seq ?_
    refine seq ?_
    refine region ?_
    refine sv (yMove rfl) ?_
    refine sv (yNeq rfl rfl) ?_
    refine nil ?_
    show Code.wp _ _ _ _ _
    refine cond rfl (fun c21 => ?_) (fun c21 => ?_)
    ·
      simp only [Bool.and_eq_true, Bool.or_eq_true, Bool.and_eq_false_iff, Bool.or_eq_false_iff, decide_eq_true_eq, decide_eq_false_iff_not, Bool.not_eq_true, Bool.not_eq_false, Bool.not_not, Bool.not_eq_eq_eq_not, Bool.not_true, Bool.not_false, Bool.false_eq_true, Bool.true_eq_false, ne_eq, Decidable.not_not, not_false_eq_true, not_true_eq_false] at c21
      refine seq ?_
      refine region ?_
      refine sv (yMove rfl) ?_
      refine sv (yAsg rfl) ?_
      refine sv (yAsg rfl) ?_
      refine nil ?_
      show Code.wp _ _ _ _ _
      refine wp_ret (thenR ?_)
      refine retQ (res2 rfl rfl rfl) ?_
      refine ⟨.slice none 0 0, by rw [hE]; rfl, ?_⟩
      rw [levelsF_bad (by rw [hE]; exact c21)]
      exact (hS.sub (List.nil_sublist _)).nilrow 38 2
    ·
      simp only [Bool.and_eq_true, Bool.or_eq_true, Bool.and_eq_false_iff, Bool.or_eq_false_iff, decide_eq_true_eq, decide_eq_false_iff_not, Bool.not_eq_true, Bool.not_eq_false, Bool.not_not, Bool.not_eq_eq_eq_not, Bool.not_true, Bool.not_false, Bool.false_eq_true, Bool.true_eq_false, ne_eq, Decidable.not_not, not_false_eq_true, not_true_eq_false] at c21
      have hok := tableOk_of c16
      have hz := hE.trans c21
      obtain ⟨_, hz2, hz3⟩ := levelsE_zero hz
      refine skip ?_
      show Code.wp _ _ _ _ _
      refine seq ?_
      refine region ?_
      refine sv (yLdBA rfl Try.isAgg24 Try.sizeOf24 (hS.at _) rfl rfl) ?_
      refine sv (yMove rfl) ?_
      refine sv (yMove rfl) ?_
      refine scall Try.call71 (.cons rfl (.cons rfl (.cons rfl .nil))) (c_levels0 (hsl.ext RConst.stays hS.ext) hok) ?_
      rintro _ w ⟨rfl, hE⟩; replace hS := hS.step hE; clear hE
      refine sv (yAsg rfl) ?_
      refine sv (yAsg rfl) ?_
      refine nil ?_
      show Code.wp _ _ _ _ _
      refine wp_ret ?_
      refine retQ (res2 rfl rfl rfl) ?_
      refine ⟨.slice none 0 0, by rw [hz]; rfl, ?_⟩
      rw [levelsF_good hz]
      exact (hS.sub (List.nil_sublist _)).nilrow 38 2
  ·
    simp only [Bool.and_eq_true, Bool.or_eq_true, Bool.and_eq_false_iff, Bool.or_eq_false_iff, decide_eq_true_eq, decide_eq_false_iff_not, Bool.not_eq_true, Bool.not_eq_false, Bool.not_not, Bool.not_eq_eq_eq_not, Bool.not_true, Bool.not_false, Bool.false_eq_true, Bool.true_eq_false, ne_eq, Decidable.not_not, not_false_eq_true, not_true_eq_false] at c16
    have hE := levelsE_bad (a := a) (n := 0) c16
    refine skip ?_
    show Code.wp _ _ _ _ _
    refine seq ?_
    refine seq ?_
    refine region ?_
    refine sv (yMove rfl) ?_
    refine sv (yNeq rfl rfl) ?_
    refine nil ?_
    show Code.wp _ _ _ _ _
    refine cond rfl (fun c21 => ?_) (fun c21 => ?_)
    ·
      simp only [Bool.and_eq_true, Bool.or_eq_true, Bool.and_eq_false_iff, Bool.or_eq_false_iff, decide_eq_true_eq, decide_eq_false_iff_not, Bool.not_eq_true, Bool.not_eq_false, Bool.not_not, Bool.not_eq_eq_eq_not, Bool.not_true, Bool.not_false, Bool.false_eq_true, Bool.true_eq_false, ne_eq, Decidable.not_not, not_false_eq_true, not_true_eq_false] at c21
      refine seq ?_
      refine region ?_
      refine sv (yMove rfl) ?_
      refine sv (yAsg rfl) ?_
      refine sv (yAsg rfl) ?_
      refine nil ?_
      show Code.wp _ _ _ _ _
      refine wp_ret (thenR ?_)
      refine retQ (res2 rfl rfl rfl) ?_
      refine ⟨.slice none 0 0, by rw [hE]; rfl, ?_⟩
      rw [levelsF_bad (by rw [hE]; exact c21)]
      exact (hS.sub (List.nil_sublist _)).nilrow 38 2
    ·
      simp only [Bool.and_eq_true, Bool.or_eq_true, Bool.and_eq_false_iff, Bool.or_eq_false_iff, decide_eq_true_eq, decide_eq_false_iff_not, Bool.not_eq_true, Bool.not_eq_false, Bool.not_not, Bool.not_eq_eq_eq_not, Bool.not_true, Bool.not_false, Bool.false_eq_true, Bool.true_eq_false, ne_eq, Decidable.not_not, not_false_eq_true, not_true_eq_false] at c21
      exact absurd c21 c16
theorem c_Levels {t : Table} {cs : List Value} {a n : Int} {w0 : World} (ht : RTable w0 cs t) : CE Try.prog 34 #[.agg cs.toArray, .int .i64 a, .int .i64 n] w0 (fun v w' => ∃ sv, v = .tuple #[sv, .int .i64 (levelsE t a n)] ∧ St w0 w' [rowI sv 38 2 (levelsF t a n).length ((levelsF t a n).flatMap spanC)]) := by
  by_cases hn : n = 0
  · subst hn; exact c_Levels0 (n := 0) ht
  · exact c_LevelsP ht hn
/-- barrage/barrageref01.down -/
theorem c_down {a b : Int} {w0 : World} (hb : 0 < b) (ha : Bd a (-1000000000000) 1000000000000) : CV Try.prog 103 #[.int .i64 a, .int .i64 b] w0 (.int .i64 (a / b)) := by
  refine enter Try.func103 rfl Try.ntmps103 rfl ?_
  have hS := St.start w0
  refine seq ?_
  refine region ?_
  refine sv (yAsg rfl) ?_
  refine nil ?_
  show Code.wp _ _ _ _ _
  refine seq ?_
  refine region ?_
  refine sv (yMove rfl) ?_
  refine sv (yMove rfl) ?_
  refine sv (yQuo rfl rfl hb ⟨by omega, by omega⟩) ?_
  refine sv (yAsg rfl) ?_
  refine nil ?_
  show Code.wp _ _ _ _ _
  refine seq ?_
  refine seq ?_
  refine region ?_
  refine sv (yMove rfl) ?_
  refine sv (yMove rfl) ?_
  refine sv (yRem rfl rfl hb) ?_
  refine sv (yLss rfl rfl) ?_
  refine nil ?_
  show Code.wp _ _ _ _ _
  refine cond rfl (fun c12 => ?_) (fun c12 => ?_)
  ·
    simp only [Bool.and_eq_true, Bool.or_eq_true, Bool.and_eq_false_iff, Bool.or_eq_false_iff, decide_eq_true_eq, decide_eq_false_iff_not, Bool.not_eq_true, Bool.not_eq_false, Bool.not_not, Bool.not_eq_eq_eq_not, Bool.not_true, Bool.not_false, Bool.false_eq_true, Bool.true_eq_false, ne_eq, Decidable.not_not, not_false_eq_true, not_true_eq_false] at c12
    have hd := tdiv_floor (a := a) hb
    rw [if_pos c12] at hd
    have hq := tdiv_bd hb ha
    refine region ?_
    refine sv (yMove rfl) ?_
    refine sv (ySub rfl rfl ⟨by omega, by omega⟩) ?_
    refine sv (yAsg rfl) ?_
    refine nil ?_
    show Code.wp _ _ _ _ _
    refine seq ?_
    refine region ?_
    refine sv (yMove rfl) ?_
    refine sv (yAsg rfl) ?_
    refine nil ?_
    show Code.wp _ _ _ _ _
    refine wp_ret ?_
    exact retV (res1 rfl (eqI hd.symm)) hS.ext
  ·
    simp only [Bool.and_eq_true, Bool.or_eq_true, Bool.and_eq_false_iff, Bool.or_eq_false_iff, decide_eq_true_eq, decide_eq_false_iff_not, Bool.not_eq_true, Bool.not_eq_false, Bool.not_not, Bool.not_eq_eq_eq_not, Bool.not_true, Bool.not_false, Bool.false_eq_true, Bool.true_eq_false, ne_eq, Decidable.not_not, not_false_eq_true, not_true_eq_false] at c12
    have hd := tdiv_floor (a := a) hb
    rw [if_neg c12] at hd
    refine skip ?_
    show Code.wp _ _ _ _ _
    refine seq ?_
    refine region ?_
    refine sv (yMove rfl) ?_
    refine sv (yAsg rfl) ?_
    refine nil ?_
    show Code.wp _ _ _ _ _
    refine wp_ret ?_
    exact retV (res1 rfl (eqI hd.symm)) hS.ext
/-- barrage/barrageref01.up -/
theorem c_up {a b : Int} {w0 : World} (hb : 0 < b) (ha : Bd a (-1000000000000) 1000000000000) : CV Try.prog 104 #[.int .i64 a, .int .i64 b] w0 (.int .i64 (-((-a) / b))) := by
  refine enter Try.func104 rfl Try.ntmps104 rfl ?_
  have hS := St.start w0
  have hq := div_bd (a := -a) (b := b) (A := 1000000000000) hb ⟨by have := Int.mul_le_mul_of_nonneg_left (show 1 ≤ b by omega) (show (0 : Int) ≤ 1000000000000 by decide); omega, by have := Int.mul_le_mul_of_nonneg_left (show 1 ≤ b by omega) (show (0 : Int) ≤ 1000000000000 by decide); omega⟩
  refine seq ?_
  refine region ?_
  refine sv (yAsg rfl) ?_
  refine nil ?_
  show Code.wp _ _ _ _ _
  refine seq ?_
  refine region ?_
  refine sv (yMove rfl) ?_
  refine sv (yNeg rfl ⟨by omega, by omega⟩) ?_
  refine sv (yMove rfl) ?_
  refine scall Try.call103 (.cons rfl (.cons rfl .nil)) (c_down hb ⟨by omega, by omega⟩) ?_
  rintro _ w ⟨rfl, hE⟩; replace hS := hS.step hE; clear hE
  refine sv (yNeg rfl ⟨by omega, by omega⟩) ?_
  refine sv (yAsg rfl) ?_
  refine nil ?_
  show Code.wp _ _ _ _ _
  refine wp_ret ?_
  exact retV (res1 rfl rfl) hS.ext
set_option maxHeartbeats 2000000 in
/-- barrage/barrageref01.level -/
theorem c_rlevel {t : Table} {cs : List Value} {tick : Int} {w0 : World} (ht : RTable w0 cs t) (hok : TableOk t) (htb : Bd tick 0 300000) : CV Try.prog 73 #[.agg cs.toArray, .int .i64 tick] w0 (.agg (spanC (lvlT t tick)).toArray) := by
  obtain ⟨cv, rfl, hmean, hsl⟩ := id ht
  obtain ⟨a, cap, rfl, hcap, hmx, hel⟩ := id hsl
  have hmean0 := hok.mean
  have hl12 := hok.len
  refine enter Try.func73 rfl Try.ntmps73 rfl ?_
  have hS := St.start w0
  refine seq ?_
  refine region ?_
  refine sbox hS rfl rfl ?_; clear hS; intro b2 w hS
  refine salloc hS Try.zeroValue38 rfl ?_; clear hS; intro b4 w hS
  refine nil ?_
  show Code.wp _ _ _ _ _
  refine seq ?_
  refine region ?_
  refine sv (fa24_0 rfl) ?_
  refine sv (yLdB rfl Try.isAgg3 (hS.at _) rfl) ?_
  refine sv (fa24_0 rfl) ?_
  refine sv (yLdB rfl Try.isAgg3 (hS.at _) rfl) ?_
  refine sv (yBuild Try.zeroValue38 rfl pl38 (.cons rfl rfl (.cons rfl rfl .nil)) rfl) ?_
  refine salloc hS Try.zeroValue38 rfl ?_; clear hS; intro b5 w hS
  refine sst hS rfl rfl Try.sizeOf38 rfl rfl rfl rfl ?_; clear hS; intro w hS
  refine nil ?_
  show Code.wp _ _ _ _ _
  refine seq ?_
  refine seq ?_
  refine region ?_
  refine sv (yAsg rfl) ?_
  refine nil ?_
  show Code.wp _ _ _ _ _
  refine block ?_
  refine loop (fun f w zz => ∃ (k : Nat), f 1 = .int .i64 tick ∧ f 2 = .pointer (some ⟨b2, 0, none⟩) ∧ f 4 = .pointer (some ⟨b4, 0, none⟩) ∧ f 5 = .pointer (some ⟨b5, 0, none⟩) ∧ f 6 = .int .i64 (k : Int) ∧ StX [] w0 w [blk b5 (spanC (lvl t.mean (t.consts.take k) tick)) 38, blk b4 [.int .i64 0, .int .i64 0] 38, blk b2 [.int .i64 t.mean, .slice a t.consts.length cap] 24] ∧ (k ≤ t.consts.length) ∧ zz = t.consts.length - k) _ ⟨_, rfl, 0, rfl, rfl, rfl, rfl, rfl, hS, (Nat.zero_le _), rfl⟩ ?_
  clear hS
  rintro f w _ ⟨k, h1, h2, h4, h5, h6, hS, hk, rfl⟩
  refine seq ?_
  refine seq ?_
  refine region ?_
  refine sv (yMove h6) ?_
  refine sv (fa24_1 h2) ?_
  refine sv (yLdB rfl Try.isAgg22 (hS.at _) rfl) ?_
  refine sv (yLen rfl Try.underlying22) ?_
  refine sv (yLss rfl rfl) ?_
  refine nil ?_
  show Code.wp _ _ _ _ _
  refine cond rfl (fun c22 => ?_) (fun c22 => ?_)
  ·
    simp only [Bool.and_eq_true, Bool.or_eq_true, Bool.and_eq_false_iff, Bool.or_eq_false_iff, decide_eq_true_eq, decide_eq_false_iff_not, Bool.not_eq_true, Bool.not_eq_false, Bool.not_not, Bool.not_eq_eq_eq_not, Bool.not_true, Bool.not_false, Bool.false_eq_true, Bool.true_eq_false, ne_eq, Decidable.not_not, not_false_eq_true, not_true_eq_false] at c22
    obtain ⟨c, hx, hd⟩ := drop_of (l := t.consts) (k := k) (by omega)
    obtain ⟨b, o, cs, ha, hlen, hcs, hR⟩ := hel (k) (by omega)
    obtain rfl : c = t.consts[k] := (List.getElem?_eq_some_iff.1 hx).2.symm
    generalize t.consts[k] = c at hx hd hR
    obtain ⟨hv, rfl, hn1, hsl1, hi1, hi2, hi3, hi4⟩ := hR
    have hx0 := hx
    have hcok : ConstOk c := hok.consts c (List.mem_of_getElem? hx)
    obtain ⟨a1, cap1, rfl, hq1, hq2, hel1⟩ := id hsl1
    have hcy := cyc_pos hcok
    have hden := hcok.den
    have hln := hcok.len
    have hsk := hcok.slack
    have hst := hcok.step
    have hof := hcok.off
    have hpb := pAt_bd hcok tick
    generalize hpe : pAt c tick = p at hpb
    have hqb := quot_bd hcok hpb
    have hib := interp_bd hcok hpb
    have hdv1 := div_bd (A := 10000) (show 0 < c.den by omega) hib
    have hdv2 := div_bd (a := -interp c p) (A := 10000) (show 0 < c.den by omega) ⟨by omega, by omega⟩
    have hm1 : Bd ((p / c.den + 1) % c.heights.length) 0 (c.heights.length - 1) := ⟨Int.emod_nonneg _ (by omega), by have := Int.emod_lt_of_pos (p / c.den + 1) (show 0 < (c.heights.length : Int) by omega); omega⟩
    have hh0 := height_bd hcok (p / c.den).toNat
    have hh1 := height_bd hcok ((p / c.den + 1) % c.heights.length).toNat
    have hmb := mul_bd (B := 1000) hh0 (show Bd (c.den - p % c.den) 0 1000 by omega) (by decide)
    have hmb2 := mul_bd (B := 1000) hh1 (show Bd (p % c.den) 0 1000 by omega) (by decide)
    obtain ⟨bx, ox, csx, hax, hlenx, hcsx, hRx⟩ := hel1 (p / c.den).toNat (by omega)
    obtain ⟨rfl, _⟩ := hRx
    rw [show c.heights[(p / c.den).toNat] = c.heights.getD (p / c.den).toNat 0 from getD_at _ _ (by omega)] at hcsx
    obtain ⟨bu, ou, csu, hau, hlenu, hcsu, hRu⟩ := hel1 ((p / c.den + 1) % c.heights.length).toNat (by omega)
    obtain ⟨rfl, _⟩ := hRu
    rw [show c.heights[((p / c.den + 1) % c.heights.length).toNat] = c.heights.getD ((p / c.den + 1) % c.heights.length).toNat 0 from getD_at _ _ (by omega)] at hcsu
    have hmt := mul_bd (a := tick) (b := c.step) (A := 300000) (B := 100000) ⟨by omega, by omega⟩ ⟨by omega, by omega⟩ (by decide)
    rw [Int.mul_comm] at hmt
    have hnn : 0 ≤ c.step * tick := Int.mul_nonneg (by omega) htb.1
    have hlb := lvl_bd hmean0 (t.consts.take k) tick (fun x hx => hok.consts x (List.mem_of_mem_take hx))
    have htl : (t.consts.take k).length ≤ 12 := by simp; omega
    refine skip ?_
    show Code.wp _ _ _ _ _
    refine seq ?_
    refine block ?_
    refine seq ?_
    refine region ?_
    refine sv (fa24_1 h2) ?_
    refine sv (yLdB rfl Try.isAgg22 (hS.at _) rfl) ?_
    refine sv (yMove h6) ?_
    refine sv (yIxa rfl ha rfl Try.runUnderlying22 Try.sizeOf46 (by omega) (by omega)) ?_
    refine sv (yLdA rfl Try.isAgg46 Try.sizeOf46 (hcs.ext hS.ext) rfl) ?_
    refine salloc hS Try.zeroValue46 rfl ?_; clear hS; intro b7 w hS
    refine sst hS rfl rfl Try.sizeOf46 rfl rfl rfl rfl ?_; clear hS; intro w hS
    refine nil ?_
    show Code.wp _ _ _ _ _
    refine seq ?_
    refine region ?_
    refine sv (fa46_1 rfl) ?_
    refine sv (yLdB rfl Try.isAgg44 (hS.at _) rfl) ?_
    refine sv (yLen rfl Try.underlying44) ?_
    refine sv (yAsg rfl) ?_
    refine nil ?_
    show Code.wp _ _ _ _ _
    refine seq ?_
    refine region ?_
    refine sv (fa46_2 rfl) ?_
    refine sv (yLdB rfl Try.isAgg3 (hS.at _) rfl) ?_
    refine sv (fa46_3 rfl) ?_
    refine sv (yLdB rfl Try.isAgg3 (hS.at _) rfl) ?_
    refine sv (yMove h1) ?_
    refine sv (yMul rfl rfl ⟨by omega, by omega⟩) ?_
    refine sv (yAdd rfl rfl ⟨by omega, by omega⟩) ?_
    refine sv (fa46_4 rfl) ?_
    refine sv (yLdB rfl Try.isAgg3 (hS.at _) rfl) ?_
    refine sv (yMove rfl) ?_
    refine sv (yMul rfl rfl ⟨by omega, by omega⟩) ?_
    refine sv (Y.to (yRemP rfl rfl (by omega) (by omega)) (show Value.int .i64 ((c.off + c.step * tick) % (c.den * c.heights.length)) = .int .i64 p by rw [← hpe]; rfl)) ?_
    refine sv (yAsg rfl) ?_
    refine nil ?_
    show Code.wp _ _ _ _ _
    refine seq ?_
    refine region_draw mixed (by kernel_rfl) hS ?_
    refine qv (fun w hS => (yMove rfl)) ?_
    refine qv (fun w hS => (fa46_4 rfl)) ?_
    refine qv (fun w hS => (yLdB rfl Try.isAgg3 (hS.at _) rfl)) ?_
    refine qv (fun w hS => (yQuoP rfl rfl ⟨by omega, by omega⟩ (by omega))) ?_
    refine qv (fun w hS => (yMove rfl)) ?_
    refine qv (fun w hS => (fa46_4 rfl)) ?_
    refine qv (fun w hS => (yLdB rfl Try.isAgg3 (hS.at _) rfl)) ?_
    refine qv (fun w hS => (yRemP rfl rfl (by omega) (by omega))) ?_
    refine qv (fun w hS => (yAsg rfl)) ?_
    refine qv (fun w hS => (yAsg rfl)) ?_
    clear hS; refine qnil (fun w hS => ?_)
    show Code.wp _ _ _ _ _
    refine seq ?_
    refine region_draw mixed (by kernel_rfl) hS ?_
    refine qv (fun w hS => (fa46_1 rfl)) ?_
    refine qv (fun w hS => (yLdB rfl Try.isAgg44 (hS.at _) rfl)) ?_
    refine qv (fun w hS => (yMove rfl)) ?_
    refine qv (fun w hS => (yIxa rfl hax rfl Try.runUnderlying44 Try.sizeOf3 (by omega) (by omega))) ?_
    refine qv (fun w hS => (yLd rfl Try.isAgg3 ((hcsx.ext hS.ext).one))) ?_
    refine qv (fun w hS => (fa46_4 rfl)) ?_
    refine qv (fun w hS => (yLdB rfl Try.isAgg3 (hS.at _) rfl)) ?_
    refine qv (fun w hS => (yMove rfl)) ?_
    refine qv (fun w hS => (ySub rfl rfl ⟨by omega, by omega⟩)) ?_
    refine qv (fun w hS => (yMul rfl rfl ⟨by omega, by omega⟩)) ?_
    refine qv (fun w hS => (fa46_1 rfl)) ?_
    refine qv (fun w hS => (yLdB rfl Try.isAgg44 (hS.at _) rfl)) ?_
    refine qv (fun w hS => (yMove rfl)) ?_
    refine qv (fun w hS => (yAdd rfl rfl ⟨by omega, by omega⟩)) ?_
    refine qv (fun w hS => (yMove rfl)) ?_
    refine qv (fun w hS => (yRemP rfl rfl (by omega) (by omega))) ?_
    refine qv (fun w hS => (yIxa rfl hau rfl Try.runUnderlying44 Try.sizeOf3 (by omega) (by omega))) ?_
    refine qv (fun w hS => (yLd rfl Try.isAgg3 ((hcsu.ext hS.ext).one))) ?_
    refine qv (fun w hS => (yMove rfl)) ?_
    refine qv (fun w hS => (yMul rfl rfl ⟨by omega, by omega⟩)) ?_
    refine qv (fun w hS => (Y.to (yAdd rfl rfl ⟨by omega, by omega⟩) (show Value.int .i64 _ = .int .i64 (interp c p) from rfl))) ?_
    refine qv (fun w hS => (yAsg rfl)) ?_
    clear hS; refine qnil (fun w hS => ?_)
    show Code.wp _ _ _ _ _
    refine seq ?_
    refine cutK (fun f => f 1 = .int .i64 tick ∧ f 2 = .pointer (some ⟨b2, 0, none⟩) ∧ f 4 = .pointer (some ⟨b4, 0, none⟩) ∧ f 5 = .pointer (some ⟨b5, 0, none⟩) ∧ f 6 = .int .i64 (k : Int) ∧ f 7 = .pointer (some ⟨b7, 0, none⟩) ∧ f 12 = .int .i64 (interp c p) ∧ True) ⟨h1, h2, h4, h5, h6, rfl, rfl, trivial⟩ ?_
    rintro f ⟨h1, h2, h4, h5, h6, h7, h12, -⟩
    refine region_tail mixed 11 (by kernel_rfl) hS ?_
    refine qv (fun w hS => (fa38_0 h5)) ?_
    refine qv (fun w hS => (yLdB rfl Try.isAgg3 (hS.at _) rfl)) ?_
    refine qv (fun w hS => (yMove h12)) ?_
    refine qv (fun w hS => (fa46_4 h7)) ?_
    refine qv (fun w hS => (yLdB rfl Try.isAgg3 (hS.at _) rfl)) ?_
    refine qcall Try.call103 (.cons rfl (.cons rfl .nil)) (fun w hS => (c_down (by omega) ⟨by omega, by omega⟩)) ?_
    refine qv (fun w hS => (yAdd rfl rfl ⟨by omega, by omega⟩)) ?_
    refine qv (fun w hS => (fa46_5 h7)) ?_
    refine qv (fun w hS => (yLdB rfl Try.isAgg3 (hS.at _) rfl)) ?_
    have hsub : (lvl t.mean (t.consts.take k) tick).lo + interp c p / c.den - c.slack = (addS (lvl t.mean (t.consts.take k) tick) (partP c (pAt c tick))).lo := by rw [hpe]; unfold addS partP; simp only []; omega
    refine qv (fun w hS => (Y.to (ySub rfl rfl ⟨by omega, by omega⟩) (eqI hsub.symm))) ?_
    refine qv (fun w hS => (fa38_0 h5)) ?_
    clear hS; refine qtl (fun w hS => ?_)
    refine sst hS rfl rfl Try.sizeOf3 rfl rfl rfl rfl ?_; clear hS; intro w hS
    refine nil ?_
    show Code.wp _ _ _ _ _
    refine region_tail mixed 11 (by kernel_rfl) hS ?_
    refine qv (fun w hS => (fa38_1 h5)) ?_
    refine qv (fun w hS => (yLdB rfl Try.isAgg3 (hS.at _) rfl)) ?_
    refine qv (fun w hS => (yMove h12)) ?_
    refine qv (fun w hS => (fa46_4 h7)) ?_
    refine qv (fun w hS => (yLdB rfl Try.isAgg3 (hS.at _) rfl)) ?_
    refine qcall Try.call104 (.cons rfl (.cons rfl .nil)) (fun w hS => (c_up (by omega) ⟨by omega, by omega⟩)) ?_
    refine qv (fun w hS => (yAdd rfl rfl ⟨by omega, by omega⟩)) ?_
    refine qv (fun w hS => (fa46_5 h7)) ?_
    refine qv (fun w hS => (yLdB rfl Try.isAgg3 (hS.at _) rfl)) ?_
    have hsuh : (lvl t.mean (t.consts.take k) tick).hi + -((-interp c p) / c.den) + c.slack = (addS (lvl t.mean (t.consts.take k) tick) (partP c (pAt c tick))).hi := by rw [hpe]; unfold addS partP; simp only []; omega
    refine qv (fun w hS => (Y.to (yAdd rfl rfl ⟨by omega, by omega⟩) (eqI hsuh.symm))) ?_
    refine qv (fun w hS => (fa38_1 h5)) ?_
    clear hS; refine qtl (fun w hS => ?_)
    refine sst hS rfl rfl Try.sizeOf3 rfl rfl rfl rfl ?_; clear hS; intro w hS
    refine nil ?_
    show Code.wp _ _ _ _ _
    refine region ?_
    refine sv (yMove h6) ?_
    refine sv (yAdd rfl rfl ⟨by omega, by omega⟩) ?_
    refine sv (yAsg rfl) ?_
    refine nil ?_
    exact ⟨_, _, rfl, ⟨k + 1, h1, h2, h4, h5, rfl, (by rw [lvl_take hx0]; exact hS.sub (.cons _ (List.Sublist.refl _))), (by omega), rfl⟩, by omega⟩
  ·
    simp only [Bool.and_eq_true, Bool.or_eq_true, Bool.and_eq_false_iff, Bool.or_eq_false_iff, decide_eq_true_eq, decide_eq_false_iff_not, Bool.not_eq_true, Bool.not_eq_false, Bool.not_not, Bool.not_eq_eq_eq_not, Bool.not_true, Bool.not_false, Bool.false_eq_true, Bool.true_eq_false, ne_eq, Decidable.not_not, not_false_eq_true, not_true_eq_false] at c22
    obtain rfl : k = t.consts.length := by omega
    rw [List.take_length] at hS
    refine exit ?_
    show Code.wp _ _ _ _ _
    refine seq ?_
    refine region ?_
    refine sv (yLdBA h5 Try.isAgg38 Try.sizeOf38 (hS.at _) rfl rfl) ?_
    refine sst hS h4 rfl Try.sizeOf38 rfl rfl rfl rfl ?_; clear hS; intro w hS
    refine nil ?_
    show Code.wp _ _ _ _ _
    refine wp_ret ?_
    exact retV (resV1 rfl (rc h4 Try.isAgg38 Try.sizeOf38 (hS.at _) rfl rfl)) hS.ext
/-- barrage/barrageref01.Level -/
theorem c_rLevel {t : Table} {cs : List Value} {tick : Int} {w0 : World} (ht : RTable w0 cs t) : CV Try.prog 33 #[.agg cs.toArray, .int .i64 tick] w0 (.tuple #[.agg (spanC (levelF t tick).1).toArray, .int .i64 (levelF t tick).2]) := by
  obtain ⟨cv, rfl, hmean, hsl⟩ := id ht
  obtain ⟨a, cap, rfl, hcap, hmx, hel⟩ := id hsl
  refine enter Try.func33 rfl Try.ntmps33 rfl ?_
  have hS := St.start w0
  refine seq ?_
  refine region ?_
  refine sbox hS rfl rfl ?_; clear hS; intro b2 w hS
  refine salloc hS Try.zeroValue38 rfl ?_; clear hS; intro b4 w hS
  refine sv (yAsg rfl) ?_
  refine nil ?_
  show Code.wp _ _ _ _ _
  refine seq ?_
  refine region ?_
  refine sv (yLdBA rfl Try.isAgg24 Try.sizeOf24 (hS.at _) rfl rfl) ?_
  refine scall Try.call20 (.cons rfl .nil) (c_rCheck (ht.ext hS.ext)) ?_
  rintro _ w ⟨rfl, hE⟩; replace hS := hS.step hE; clear hE
  refine sv (yMove rfl) ?_
  refine sv (yExt rfl rfl) ?_
  refine sv (yExt rfl rfl) ?_
  refine sv (yAsg rfl) ?_
  refine sv (yAsg rfl) ?_
  refine nil ?_
  show Code.wp _ _ _ _ _
  refine seq ?_
  refine seq ?_
  refine region ?_
  refine sv (yMove rfl) ?_
  refine sv (yEql rfl rfl) ?_
  refine sv (yMove rfl) ?_
  refine sg rfl rfl rfl (fun g => (yMove rfl)) (fun v16 g16 => ?_)
  refine sgc hS rfl rfl rfl Try.call67 (fun g => (.cons (g16.1 g) .nil)) (fun g => c_tick) ?_; clear hS; intro v17 w hS g17
  refine sg rfl rfl rfl (fun g => (yNot (g17.1 g))) (fun v18 g18 => ?_)
  refine sv (yAnd rfl (fun hB => (g18.1 hB)) rfl) ?_
  refine nil ?_
  show Code.wp _ _ _ _ _
  refine cond rfl (fun c19 => ?_) (fun c19 => ?_)
  ·
    simp only [Bool.and_eq_true, Bool.or_eq_true, Bool.and_eq_false_iff, Bool.or_eq_false_iff, decide_eq_true_eq, decide_eq_false_iff_not, Bool.not_eq_true, Bool.not_eq_false, Bool.not_not, Bool.not_eq_eq_eq_not, Bool.not_true, Bool.not_false, Bool.false_eq_true, Bool.true_eq_false, ne_eq, Decidable.not_not, not_false_eq_true, not_true_eq_false] at c19
    refine region ?_
    refine sv (yAsg rfl) ?_
    refine nil ?_
    show Code.wp _ _ _ _ _
    refine seq ?_
    refine seq ?_
    refine region ?_
    refine sv (yMove rfl) ?_
    refine sv (yNeq rfl rfl) ?_
    refine nil ?_
    show Code.wp _ _ _ _ _
    refine cond rfl (fun c21 => ?_) (fun c21 => ?_)
    ·
      simp only [Bool.and_eq_true, Bool.or_eq_true, Bool.and_eq_false_iff, Bool.or_eq_false_iff, decide_eq_true_eq, decide_eq_false_iff_not, Bool.not_eq_true, Bool.not_eq_false, Bool.not_not, Bool.not_eq_eq_eq_not, Bool.not_true, Bool.not_false, Bool.false_eq_true, Bool.true_eq_false, ne_eq, Decidable.not_not, not_false_eq_true, not_true_eq_false] at c21
      refine seq ?_
      refine region ?_
      refine sv (yBuild Try.zeroValue38 rfl pl38 .nil rfl) ?_
      refine sv (yMove rfl) ?_
      refine sst hS rfl rfl Try.sizeOf38 rfl rfl rfl rfl ?_; clear hS; intro w hS
      refine sv (yAsg rfl) ?_
      refine nil ?_
      show Code.wp _ _ _ _ _
      have hfin : levelF t tick = (⟨0, 0⟩, 7) := by unfold levelF; rw [if_neg (fun h => h c19.1), if_pos (by unfold ticksE; rw [if_pos]; decide; simp only [List.any_cons, List.any_nil, Bool.or_false, outB_inB, c19.2]; rfl)]; unfold ticksE; rw [if_pos]; simp only [List.any_cons, List.any_nil, Bool.or_false, outB_inB, c19.2]; rfl
      refine wp_ret (thenR ?_)
      exact retV (resV2 rfl (rc rfl Try.isAgg38 Try.sizeOf38 (hS.at _) (by rw [hfin]; rfl) rfl) (rt (eqI (by rw [hfin])))) hS.ext
    ·
      simp only [Bool.and_eq_true, Bool.or_eq_true, Bool.and_eq_false_iff, Bool.or_eq_false_iff, decide_eq_true_eq, decide_eq_false_iff_not, Bool.not_eq_true, Bool.not_eq_false, Bool.not_not, Bool.not_eq_eq_eq_not, Bool.not_true, Bool.not_false, Bool.false_eq_true, Bool.true_eq_false, ne_eq, Decidable.not_not, not_false_eq_true, not_true_eq_false] at c21
      exact absurd c21 (by decide)
  ·
    simp only [Bool.and_eq_true, Bool.or_eq_true, Bool.and_eq_false_iff, Bool.or_eq_false_iff, decide_eq_true_eq, decide_eq_false_iff_not, Bool.not_eq_true, Bool.not_eq_false, Bool.not_not, Bool.not_eq_eq_eq_not, Bool.not_true, Bool.not_false, Bool.false_eq_true, Bool.true_eq_false, ne_eq, Decidable.not_not, not_false_eq_true, not_true_eq_false] at c19
    refine skip ?_
    show Code.wp _ _ _ _ _
    refine seq ?_
    refine seq ?_
    refine region ?_
    refine sv (yMove rfl) ?_
    refine sv (yNeq rfl rfl) ?_
    refine nil ?_
    show Code.wp _ _ _ _ _
    refine cond rfl (fun c21 => ?_) (fun c21 => ?_)
    ·
      simp only [Bool.and_eq_true, Bool.or_eq_true, Bool.and_eq_false_iff, Bool.or_eq_false_iff, decide_eq_true_eq, decide_eq_false_iff_not, Bool.not_eq_true, Bool.not_eq_false, Bool.not_not, Bool.not_eq_eq_eq_not, Bool.not_true, Bool.not_false, Bool.false_eq_true, Bool.true_eq_false, ne_eq, Decidable.not_not, not_false_eq_true, not_true_eq_false] at c21
      refine seq ?_
      refine region ?_
      refine sv (yBuild Try.zeroValue38 rfl pl38 .nil rfl) ?_
      refine sv (yMove rfl) ?_
      refine sst hS rfl rfl Try.sizeOf38 rfl rfl rfl rfl ?_; clear hS; intro w hS
      refine sv (yAsg rfl) ?_
      refine nil ?_
      show Code.wp _ _ _ _ _
      have hfin : levelF t tick = (⟨0, 0⟩, (checkT t).2) := by unfold levelF; rw [if_pos c21]
      refine wp_ret (thenR ?_)
      exact retV (resV2 rfl (rc rfl Try.isAgg38 Try.sizeOf38 (hS.at _) (by rw [hfin]; rfl) rfl) (rt (eqI (by rw [hfin])))) hS.ext
    ·
      simp only [Bool.and_eq_true, Bool.or_eq_true, Bool.and_eq_false_iff, Bool.or_eq_false_iff, decide_eq_true_eq, decide_eq_false_iff_not, Bool.not_eq_true, Bool.not_eq_false, Bool.not_not, Bool.not_eq_eq_eq_not, Bool.not_true, Bool.not_false, Bool.false_eq_true, Bool.true_eq_false, ne_eq, Decidable.not_not, not_false_eq_true, not_true_eq_false] at c21
      have htb : Bd tick 0 200000 := inB_iff.1 (by rcases c19 with h | h; exact absurd c21 h; exact h)
      have hok := tableOk_of c21
      have hfin := levelF_ok c21 htb
      refine skip ?_
      show Code.wp _ _ _ _ _
      refine seq ?_
      refine region ?_
      refine sv (yLdBA rfl Try.isAgg24 Try.sizeOf24 (hS.at _) rfl rfl) ?_
      refine sv (yMove rfl) ?_
      refine scall Try.call73 (.cons rfl (.cons rfl .nil)) (c_rlevel (ht.ext hS.ext) hok ⟨by omega, by omega⟩) ?_
      rintro _ w ⟨rfl, hE⟩; replace hS := hS.step hE; clear hE
      refine sst hS rfl rfl Try.sizeOf38 rfl rfl rfl rfl ?_; clear hS; intro w hS
      refine sv (yAsg rfl) ?_
      refine nil ?_
      show Code.wp _ _ _ _ _
      refine wp_ret ?_
      exact retV (resV2 rfl (rc rfl Try.isAgg38 Try.sizeOf38 (hS.at _) (by rw [hfin]; rfl) rfl) (rt (eqI (by rw [hfin])))) hS.ext
end Go.Proofs.Ytpgmehignepidaa
/- part Wk15 -/
namespace Go.Proofs.Ytpgmehignepidaa
open Go Bx
set_option maxHeartbeats 1000000 in
/-- barrage/barrageref01.Levels -/
theorem c_rLevels {t : Table} {cs : List Value} {a n : Int} {w0 : World} (ht : RTable w0 cs t) (hia : I64 a) (hin : I64 n) : CE Try.prog 35 #[.agg cs.toArray, .int .i64 a, .int .i64 n] w0 (fun v w' => ∃ sv, v = .tuple #[sv, .int .i64 (levelsE t a n)] ∧ St w0 w' [rowI sv 38 2 (levelsF t a n).length ((levelsF t a n).flatMap spanC)]) := by
  obtain ⟨cv, rfl, hmean, hsl⟩ := id ht
  obtain ⟨aa, cap, rfl, hcap, hmx, hel⟩ := id hsl
  refine enter Try.func35 rfl Try.ntmps35 rfl ?_
  have hS := St.start w0
  refine seq ?_
  refine region ?_
  refine sbox hS rfl rfl ?_; clear hS; intro b3 w hS
  refine sv (yAsg rfl) ?_
  refine sv (yAsg rfl) ?_
  refine nil ?_
  show Code.wp _ _ _ _ _
  refine seq ?_
  refine region ?_
  refine sv (yLdBA rfl Try.isAgg24 Try.sizeOf24 (hS.at _) rfl rfl) ?_
  refine scall Try.call20 (.cons rfl .nil) (c_rCheck (ht.ext hS.ext)) ?_
  rintro _ w ⟨rfl, hE⟩; replace hS := hS.step hE; clear hE
  refine sv (yMove rfl) ?_
  refine sv (yExt rfl rfl) ?_
  refine sv (yExt rfl rfl) ?_
  refine sv (yAsg rfl) ?_
  refine sv (yAsg rfl) ?_
  refine nil ?_
  show Code.wp _ _ _ _ _
  refine seq ?_
  refine seq ?_
  refine region ?_
  refine sv (yMove rfl) ?_
  refine sv (yEql rfl rfl) ?_
  refine nil ?_
  show Code.wp _ _ _ _ _
  refine cond rfl (fun c18 => ?_) (fun c18 => ?_)
  ·
    simp only [Bool.and_eq_true, Bool.or_eq_true, Bool.and_eq_false_iff, Bool.or_eq_false_iff, decide_eq_true_eq, decide_eq_false_iff_not, Bool.not_eq_true, Bool.not_eq_false, Bool.not_not, Bool.not_eq_eq_eq_not, Bool.not_true, Bool.not_false, Bool.false_eq_true, Bool.true_eq_false, ne_eq, Decidable.not_not, not_false_eq_true, not_true_eq_false] at c18
    have hE := levelsE_good (a := a) (n := n) c18
    refine region ?_
    refine sv (yMove rfl) ?_
    refine sv (yMove rfl) ?_
    refine scall Try.call75 (.cons rfl (.cons rfl .nil)) c_rsome ?_
    rintro _ w ⟨rfl, hE⟩; replace hS := hS.step hE; clear hE
    refine sv (yAsg rfl) ?_
    refine nil ?_
    show Code.wp _ _ _ _ _
    refine seq ?_
    refine seq ?_
    refine region ?_
    refine sv (yMove rfl) ?_
    refine sv (yNeq rfl rfl) ?_
    refine nil ?_
    show Code.wp _ _ _ _ _
    refine cond rfl (fun c23 => ?_) (fun c23 => ?_)
    ·
      simp only [Bool.and_eq_true, Bool.or_eq_true, Bool.and_eq_false_iff, Bool.or_eq_false_iff, decide_eq_true_eq, decide_eq_false_iff_not, Bool.not_eq_true, Bool.not_eq_false, Bool.not_not, Bool.not_eq_eq_eq_not, Bool.not_true, Bool.not_false, Bool.false_eq_true, Bool.true_eq_false, ne_eq, Decidable.not_not, not_false_eq_true, not_true_eq_false] at c23
      refine seq ?_
      refine region ?_
      refine sv (yMove rfl) ?_
      refine sv (yAsg rfl) ?_
      refine sv (yAsg rfl) ?_
      refine nil ?_
      show Code.wp _ _ _ _ _
      refine wp_ret (thenR ?_)
      refine retQ (res2 rfl rfl rfl) ?_
      refine ⟨.slice none 0 0, by rw [hE]; rfl, ?_⟩
      rw [levelsF_bad (by rw [hE]; exact c23)]
      exact (hS.sub (List.nil_sublist _)).nilrow 38 2
    ·
      simp only [Bool.and_eq_true, Bool.or_eq_true, Bool.and_eq_false_iff, Bool.or_eq_false_iff, decide_eq_true_eq, decide_eq_false_iff_not, Bool.not_eq_true, Bool.not_eq_false, Bool.not_not, Bool.not_eq_eq_eq_not, Bool.not_true, Bool.not_false, Bool.false_eq_true, Bool.true_eq_false, ne_eq, Decidable.not_not, not_false_eq_true, not_true_eq_false] at c23
      have hok := tableOk_of c18
      have hz := hE.trans c23
      obtain ⟨_, hz2, hz3⟩ := levelsE_zero hz
      obtain ⟨mm, rfl⟩ := Int.eq_ofNat_of_zero_le hz2.1
      refine skip ?_
      show Code.wp _ _ _ _ _
      refine seq ?_
      refine region ?_
      refine sv (yAsg rfl) ?_
      refine nil ?_
      show Code.wp _ _ _ _ _
      refine seq ?_
      refine seq ?_
      refine region ?_
      refine sv (yAsg rfl) ?_
      refine nil ?_
      show Code.wp _ _ _ _ _
      refine block ?_
      refine loop (fun f w zz => ∃ (k : Nat) (v : Value), f 1 = .int .i64 a ∧ f 2 = .int .i64 (mm : Int) ∧ f 3 = .pointer (some ⟨b3, 0, none⟩) ∧ f 10 = v ∧ f 11 = .int .i64 (k : Int) ∧ StX [] w0 w [rowI v 38 2 k ((lvlsL t a k).flatMap spanC), blk b3 [.int .i64 t.mean, .slice aa t.consts.length cap] 24] ∧ (k ≤ mm) ∧ zz = mm - k) _ ⟨_, rfl, 0, _, rfl, rfl, rfl, rfl, rfl, (hS.nilrow 38 2), (Nat.zero_le _), rfl⟩ ?_
      clear hS
      rintro f w _ ⟨k, v, h1, h2, h3, h10, h11, hS, hk, rfl⟩
      refine seq ?_
      refine seq ?_
      refine region ?_
      refine sv (yMove h11) ?_
      refine sv (yMove h2) ?_
      refine sv (yLss rfl rfl) ?_
      refine nil ?_
      show Code.wp _ _ _ _ _
      refine cond rfl (fun c27 => ?_) (fun c27 => ?_)
      ·
        simp only [Bool.and_eq_true, Bool.or_eq_true, Bool.and_eq_false_iff, Bool.or_eq_false_iff, decide_eq_true_eq, decide_eq_false_iff_not, Bool.not_eq_true, Bool.not_eq_false, Bool.not_not, Bool.not_eq_eq_eq_not, Bool.not_true, Bool.not_false, Bool.false_eq_true, Bool.true_eq_false, ne_eq, Decidable.not_not, not_false_eq_true, not_true_eq_false] at c27
        have hab := hz3 (by omega)
        refine skip ?_
        show Code.wp _ _ _ _ _
        refine seq ?_
        refine block ?_
        refine region ?_
        refine sv (yMove h10) ?_
        refine sv (yLdBA h3 Try.isAgg24 Try.sizeOf24 (hS.at _) rfl rfl) ?_
        refine sv (yMove h1) ?_
        refine sv (yMove h11) ?_
        refine sv (yAdd rfl rfl ⟨by omega, by omega⟩) ?_
        refine scall Try.call73 (.cons rfl (.cons rfl .nil)) (c_rlevel (tick := a + k) (ht.ext hS.ext) hok ⟨by omega, by omega⟩) ?_
        rintro _ w ⟨rfl, hE⟩; replace hS := hS.step hE; clear hE
        refine sbslice hS Try.underlying61 Try.sizeOf38 rfl Try.zeroValue38 rfl (.cons rfl rfl .nil) rfl ?_; clear hS; intro b36 w hS
        refine sapp (bytes := 16) (size := 2) (v := v) (m := 1) hS rfl rfl Try.underlying61 ti38 rfl rfl rfl rfl (by decide) (blk_cells (hS.at _)) rfl rfl (by omega) (by omega) ?_; clear hS; intro v37 w hS
        refine sv (yAsg rfl) ?_
        refine nil ?_
        show Code.wp _ _ _ _ _
        refine region ?_
        refine sv (yMove h11) ?_
        refine sv (yAdd rfl rfl ⟨by omega, by omega⟩) ?_
        refine sv (yAsg rfl) ?_
        refine nil ?_
        exact ⟨_, _, rfl, ⟨k + 1, _, h1, h2, h3, rfl, rfl, (by rw [lvlsL_succ, List.flatMap_append]; exact hS.sub (.cons _ (List.Sublist.refl _))), (by omega), rfl⟩, by omega⟩
      ·
        simp only [Bool.and_eq_true, Bool.or_eq_true, Bool.and_eq_false_iff, Bool.or_eq_false_iff, decide_eq_true_eq, decide_eq_false_iff_not, Bool.not_eq_true, Bool.not_eq_false, Bool.not_not, Bool.not_eq_eq_eq_not, Bool.not_true, Bool.not_false, Bool.false_eq_true, Bool.true_eq_false, ne_eq, Decidable.not_not, not_false_eq_true, not_true_eq_false] at c27
        obtain rfl : k = mm := by omega
        refine exit ?_
        show Code.wp _ _ _ _ _
        refine seq ?_
        refine region ?_
        refine sv (yMove h10) ?_
        refine sv (yAsg rfl) ?_
        refine sv (yAsg rfl) ?_
        refine nil ?_
        show Code.wp _ _ _ _ _
        refine wp_ret ?_
        refine retQ (res2 rfl rfl rfl) ?_
        refine ⟨v, by rw [hz]; rfl, ?_⟩
        rw [levelsF_good hz, show (lvlsL t a (k : Int).toNat).length = k from lvlsL_len t a k]
        exact hS.sub (.cons_cons _ (List.nil_sublist _))
  ·
    simp only [Bool.and_eq_true, Bool.or_eq_true, Bool.and_eq_false_iff, Bool.or_eq_false_iff, decide_eq_true_eq, decide_eq_false_iff_not, Bool.not_eq_true, Bool.not_eq_false, Bool.not_not, Bool.not_eq_eq_eq_not, Bool.not_true, Bool.not_false, Bool.false_eq_true, Bool.true_eq_false, ne_eq, Decidable.not_not, not_false_eq_true, not_true_eq_false] at c18
    have hE := levelsE_bad (a := a) (n := n) c18
    refine skip ?_
    show Code.wp _ _ _ _ _
    refine seq ?_
    refine seq ?_
    refine region ?_
    refine sv (yMove rfl) ?_
    refine sv (yNeq rfl rfl) ?_
    refine nil ?_
    show Code.wp _ _ _ _ _
    refine cond rfl (fun c23 => ?_) (fun c23 => ?_)
    ·
      simp only [Bool.and_eq_true, Bool.or_eq_true, Bool.and_eq_false_iff, Bool.or_eq_false_iff, decide_eq_true_eq, decide_eq_false_iff_not, Bool.not_eq_true, Bool.not_eq_false, Bool.not_not, Bool.not_eq_eq_eq_not, Bool.not_true, Bool.not_false, Bool.false_eq_true, Bool.true_eq_false, ne_eq, Decidable.not_not, not_false_eq_true, not_true_eq_false] at c23
      refine seq ?_
      refine region ?_
      refine sv (yMove rfl) ?_
      refine sv (yAsg rfl) ?_
      refine sv (yAsg rfl) ?_
      refine nil ?_
      show Code.wp _ _ _ _ _
      refine wp_ret (thenR ?_)
      refine retQ (res2 rfl rfl rfl) ?_
      refine ⟨.slice none 0 0, by rw [hE]; rfl, ?_⟩
      rw [levelsF_bad (by rw [hE]; exact c23)]
      exact (hS.sub (List.nil_sublist _)).nilrow 38 2
    ·
      simp only [Bool.and_eq_true, Bool.or_eq_true, Bool.and_eq_false_iff, Bool.or_eq_false_iff, decide_eq_true_eq, decide_eq_false_iff_not, Bool.not_eq_true, Bool.not_eq_false, Bool.not_not, Bool.not_eq_eq_eq_not, Bool.not_true, Bool.not_false, Bool.false_eq_true, Bool.true_eq_false, ne_eq, Decidable.not_not, not_false_eq_true, not_true_eq_false] at c23
      exact absurd c23 c18
/-- barrage/barragelaw01.TideLevels -/
theorem w_TideLevels {t : Table} {cs : List Value} {tick n : Int} {w0 : World} (ht : RTable w0 cs t) (hti : I64 tick) (hn : I64 n) : CV Try.prog 9 #[.agg cs.toArray, .int .i64 tick, .int .i64 n] w0 (.bool true) := by
  obtain ⟨cv, rfl, hmean, hsl⟩ := id ht
  obtain ⟨a, cap, rfl, hcap, hmx, hel⟩ := id hsl
  refine enter Try.func9 rfl Try.ntmps9 rfl ?_
  have hS := St.start w0
  refine seq ?_
  refine region ?_
  refine sbox hS rfl rfl ?_; clear hS; intro b3 w hS
  refine sv (yAsg rfl) ?_
  refine nil ?_
  show Code.wp _ _ _ _ _
  refine seq ?_
  refine region ?_
  refine sv (yLdBA rfl Try.isAgg24 Try.sizeOf24 (hS.at _) rfl rfl) ?_
  refine sv (yMove rfl) ?_
  refine scall Try.call28 (.cons rfl (.cons rfl .nil)) (c_Level (ht.ext hS.ext) hti) ?_
  rintro _ w ⟨rfl, hE⟩; replace hS := hS.step hE; clear hE
  refine sv (yMove rfl) ?_
  refine sv (yExt rfl rfl) ?_
  refine sv (yExt rfl rfl) ?_
  refine salloc hS Try.zeroValue38 rfl ?_; clear hS; intro b7 w hS
  refine sst hS rfl rfl Try.sizeOf38 rfl rfl rfl rfl ?_; clear hS; intro w hS
  refine sv (yAsg rfl) ?_
  refine nil ?_
  show Code.wp _ _ _ _ _
  refine seq ?_
  refine region ?_
  refine sv (yLdBA rfl Try.isAgg24 Try.sizeOf24 (hS.at _) rfl rfl) ?_
  refine sv (yMove rfl) ?_
  refine scall Try.call33 (.cons rfl (.cons rfl .nil)) (c_rLevel (ht.ext hS.ext)) ?_
  rintro _ w ⟨rfl, hE⟩; replace hS := hS.step hE; clear hE
  refine sv (yMove rfl) ?_
  refine sv (yExt rfl rfl) ?_
  refine sv (yExt rfl rfl) ?_
  refine salloc hS Try.zeroValue38 rfl ?_; clear hS; intro b9 w hS
  refine sst hS rfl rfl Try.sizeOf38 rfl rfl rfl rfl ?_; clear hS; intro w hS
  refine sv (yAsg rfl) ?_
  refine nil ?_
  show Code.wp _ _ _ _ _
  refine seq ?_
  refine seq ?_
  refine region ?_
  refine sv (yLdBA rfl Try.isAgg38 Try.sizeOf38 (hS.at _) rfl rfl) ?_
  refine sv (yLdBA rfl Try.isAgg38 Try.sizeOf38 (hS.at _) rfl rfl) ?_
  refine sv (neS38 rfl rfl) ?_
  refine sv (yMove rfl) ?_
  refine sg rfl rfl rfl (fun g => (yMove rfl)) (fun v29 g29 => ?_)
  refine sg rfl rfl rfl (fun g => (yMove rfl)) (fun v30 g30 => ?_)
  refine sg rfl rfl rfl (fun g => (yNeq (g29.1 g) (g30.1 g))) (fun v31 g31 => ?_)
  refine sv (yOr rfl rfl (fun hB => (g31.1 hB))) ?_
  refine nil ?_
  show Code.wp _ _ _ _ _
  refine cond rfl (fun c32 => ?_) (fun c32 => ?_)
  ·
    exact absurd c32 (by simp)
  ·
    refine skip ?_
    show Code.wp _ _ _ _ _
    refine seq ?_
    refine region ?_
    refine sv (yLdBA rfl Try.isAgg24 Try.sizeOf24 (hS.at _) rfl rfl) ?_
    refine sv (yMove rfl) ?_
    refine sv (yMove rfl) ?_
    refine scall Try.call34 (.cons rfl (.cons rfl (.cons rfl .nil))) (c_Levels (ht.ext hS.ext)) ?_
    rintro _ w ⟨sv1, rfl, hM⟩; replace hS := hS.call1 hM; clear hM
    refine sv (yMove rfl) ?_
    refine sv (yExt rfl rfl) ?_
    refine sv (yExt rfl rfl) ?_
    refine sv (yAsg rfl) ?_
    refine sv (yAsg rfl) ?_
    refine nil ?_
    show Code.wp _ _ _ _ _
    refine seq ?_
    refine region ?_
    refine sv (yLdBA rfl Try.isAgg24 Try.sizeOf24 (hS.at _) rfl rfl) ?_
    refine sv (yMove rfl) ?_
    refine sv (yMove rfl) ?_
    refine scall Try.call35 (.cons rfl (.cons rfl (.cons rfl .nil))) (c_rLevels (ht.ext hS.ext) hti hn) ?_
    rintro _ w ⟨sv2, rfl, hM⟩; replace hS := hS.call1 hM; clear hM
    refine sv (yMove rfl) ?_
    refine sv (yExt rfl rfl) ?_
    refine sv (yExt rfl rfl) ?_
    refine sv (yAsg rfl) ?_
    refine sv (yAsg rfl) ?_
    refine nil ?_
    show Code.wp _ _ _ _ _
    refine seq ?_
    refine region ?_
    refine sv (yMove rfl) ?_
    refine sv (yMove rfl) ?_
    refine scall Try.call36 (.cons rfl (.cons rfl .nil)) (c_Spans (sl_spans (hS.row sv1) rfl levelsF_ok) (sl_spans (hS.row sv2) rfl levelsF_ok)) ?_
    rintro _ w ⟨rfl, hE⟩; replace hS := hS.step hE; clear hE
    refine sv (yMove rfl) ?_
    refine sg rfl rfl rfl (fun g => (yMove rfl)) (fun v51 g51 => ?_)
    refine sg rfl rfl rfl (fun g => (yMove rfl)) (fun v52 g52 => ?_)
    refine sg rfl rfl rfl (fun g => (yEql (g51.1 g) (g52.1 g))) (fun v53 g53 => ?_)
    refine sv (yAnd rfl (fun hB => (g53.1 hB)) rfl) ?_
    refine sv (yMove rfl) ?_
    refine sgc hS rfl rfl rfl Try.call23 (fun g => .nil) (fun g => c_Awake) ?_; clear hS; intro v56 w hS g56
    refine sv (yAnd rfl (fun hB => (g56.1 hB)) rfl) ?_
    refine sv (yAsg rfl) ?_
    refine nil ?_
    show Code.wp _ _ _ _ _
    refine wp_ret ?_
    exact retV (res1 rfl (eqB (by simp))) hS.ext
end Go.Proofs.Ytpgmehignepidaa
/- part Wk16 -/
namespace Go.Proofs.Ytpgmehignepidaa
open Go Bx
/-- barrage/tide.High closure 1 -/
theorem c_High1 {x y : Span} {w0 : World} : CV Try.prog 94 #[.agg (spanC x).toArray, .agg (spanC y).toArray] w0 (.int .i64 (cmpI x.lo y.lo)) := by
  refine enter Try.func94 rfl Try.ntmps94 rfl ?_
  have hS := St.start w0
  refine seq ?_
  refine region ?_
  refine sbox hS rfl rfl ?_; clear hS; intro b2 w hS
  refine sbox hS rfl rfl ?_; clear hS; intro b3 w hS
  refine sv (yAsg rfl) ?_
  refine nil ?_
  show Code.wp _ _ _ _ _
  refine seq ?_
  refine region ?_
  refine sv (fa38_0 rfl) ?_
  refine sv (yLdB rfl Try.isAgg3 (hS.at _) rfl) ?_
  refine sv (fa38_0 rfl) ?_
  refine sv (yLdB rfl Try.isAgg3 (hS.at _) rfl) ?_
  refine scall Try.call95 (.cons rfl (.cons rfl .nil)) c_Compare ?_
  rintro _ w ⟨rfl, hE⟩; replace hS := hS.step hE; clear hE
  refine sv (yAsg rfl) ?_
  refine nil ?_
  show Code.wp _ _ _ _ _
  refine wp_ret ?_
  exact retV (res1 rfl rfl) hS.ext
/-- slices.MaxFunc   barrage/api.Span,barrage/api.Span  -/
theorem c_MaxSpan {l : List Span} {v : Value} {w0 : World} (hl : Sl w0 2 RSpan v l) (hne : l ≠ []) : CE Try.prog 93 #[v, .func (.func 94) #[] #[]] w0 (fun v w' => ∃ m, v = .agg (spanC m).toArray ∧ m ∈ l ∧ (∀ s ∈ l, s.lo ≤ m.lo) ∧ Ext w0 w') := by
  obtain ⟨a, cap, rfl, hcap, hmx, hel⟩ := hl
  have hpos : 0 < l.length := List.length_pos_iff.2 hne
  refine enter Try.func93 rfl Try.ntmps93 rfl ?_
  have hS := St.start w0
  refine seq ?_
  refine region ?_
  refine salloc hS Try.zeroValue38 rfl ?_; clear hS; intro b4 w hS
  refine nil ?_
  show Code.wp _ _ _ _ _
  refine seq ?_
  refine seq ?_
  refine region ?_
  refine sv (yMove rfl) ?_
  refine sv (yLen rfl Try.underlying61) ?_
  refine sv (yLss rfl rfl) ?_
  refine nil ?_
  show Code.wp _ _ _ _ _
  refine cond rfl (fun c9 => ?_) (fun c9 => ?_)
  ·
    simp only [Bool.and_eq_true, Bool.or_eq_true, Bool.and_eq_false_iff, Bool.or_eq_false_iff, decide_eq_true_eq, decide_eq_false_iff_not, Bool.not_eq_true, Bool.not_eq_false, Bool.not_not, Bool.not_eq_eq_eq_not, Bool.not_true, Bool.not_false, Bool.false_eq_true, Bool.true_eq_false, ne_eq, Decidable.not_not, not_false_eq_true, not_true_eq_false] at c9
    omega
  ·
    simp only [Bool.and_eq_true, Bool.or_eq_true, Bool.and_eq_false_iff, Bool.or_eq_false_iff, decide_eq_true_eq, decide_eq_false_iff_not, Bool.not_eq_true, Bool.not_eq_false, Bool.not_not, Bool.not_eq_eq_eq_not, Bool.not_true, Bool.not_false, Bool.false_eq_true, Bool.true_eq_false, ne_eq, Decidable.not_not, not_false_eq_true, not_true_eq_false] at c9
    refine skip ?_
    show Code.wp _ _ _ _ _
    refine seq ?_
    refine region ?_
    obtain ⟨x, hx0, hd0⟩ := drop_of (l := l) (k := 0) (by omega)
    obtain ⟨b0, o0, cs0, ha0, hlen0, hcs0, hR0⟩ := hel (0) (by omega)
    obtain rfl : x = l[0] := (List.getElem?_eq_some_iff.1 hx0).2.symm
    generalize l[0] = x at hx0 hd0 hR0
    obtain ⟨rfl, _, _⟩ := hR0
    refine sv (yMove rfl) ?_
    refine sv (yIxa rfl ha0 rfl Try.runUnderlying61 Try.sizeOf38 (by omega) (by omega)) ?_
    refine sv (yLdA rfl Try.isAgg38 Try.sizeOf38 (hcs0.ext hS.ext) rfl) ?_
    refine salloc hS Try.zeroValue38 rfl ?_; clear hS; intro b5 w hS
    refine sst hS rfl rfl Try.sizeOf38 rfl rfl rfl rfl ?_; clear hS; intro w hS
    refine nil ?_
    show Code.wp _ _ _ _ _
    refine seq ?_
    refine seq ?_
    refine region ?_
    refine sv (yAsg rfl) ?_
    refine nil ?_
    show Code.wp _ _ _ _ _
    refine block ?_
    refine loop (fun f w zz => ∃ (k : Nat) (m : Span), f 0 = .slice a l.length cap ∧ f 1 = .func (.func 94) #[] #[] ∧ f 4 = .pointer (some ⟨b4, 0, none⟩) ∧ f 5 = .pointer (some ⟨b5, 0, none⟩) ∧ f 6 = .int .i64 (k : Int) ∧ StX [] w0 w [blk b5 (spanC m) 38, blk b4 [.int .i64 0, .int .i64 0] 38] ∧ (k ≤ l.length) ∧ (m ∈ l) ∧ (∀ i, i < k → ∀ s, l[i]? = some s → s.lo ≤ m.lo) ∧ zz = l.length - k) _ ⟨_, rfl, 1, x, rfl, rfl, rfl, rfl, rfl, hS, (by omega), (List.mem_of_getElem? hx0), (fun i hi s hs => by obtain rfl : i = 0 := (by omega); rw [hx0] at hs; obtain rfl := Option.some.inj hs; exact Int.le_refl _), rfl⟩ ?_
    clear hS
    rintro f w _ ⟨k, m, h0, h1, h4, h5, h6, hS, hk, hm, hI, rfl⟩
    refine seq ?_
    refine seq ?_
    refine region ?_
    refine sv (yMove h6) ?_
    refine sv (yMove h0) ?_
    refine sv (yLen rfl Try.underlying61) ?_
    refine sv (yLss rfl rfl) ?_
    refine nil ?_
    show Code.wp _ _ _ _ _
    refine cond rfl (fun c17 => ?_) (fun c17 => ?_)
    ·
      simp only [Bool.and_eq_true, Bool.or_eq_true, Bool.and_eq_false_iff, Bool.or_eq_false_iff, decide_eq_true_eq, decide_eq_false_iff_not, Bool.not_eq_true, Bool.not_eq_false, Bool.not_not, Bool.not_eq_eq_eq_not, Bool.not_true, Bool.not_false, Bool.false_eq_true, Bool.true_eq_false, ne_eq, Decidable.not_not, not_false_eq_true, not_true_eq_false] at c17
      obtain ⟨y, hxq, hdq⟩ := drop_of (l := l) (k := k) (by omega)
      obtain ⟨bq, oq, csq, haq, hlenq, hcsq, hRq⟩ := hel (k) (by omega)
      obtain rfl : y = l[k] := (List.getElem?_eq_some_iff.1 hxq).2.symm
      generalize l[k] = y at hxq hdq hRq
      obtain ⟨rfl, _, _⟩ := hRq
      refine skip ?_
      show Code.wp _ _ _ _ _
      refine seq ?_
      refine block ?_
      refine seq ?_
      refine region_draw mixed (by kernel_rfl) hS ?_
      refine qv (fun w hS => (yMove h1)) ?_
      refine qv (fun w hS => (yMove h0)) ?_
      refine qv (fun w hS => (yMove h6)) ?_
      refine qv (fun w hS => (yIxa rfl haq rfl Try.runUnderlying61 Try.sizeOf38 (by omega) (by omega))) ?_
      refine qv (fun w hS => (yLdA rfl Try.isAgg38 Try.sizeOf38 (hcsq.ext hS.ext) rfl)) ?_
      refine qv (fun w hS => (yLdBA h5 Try.isAgg38 Try.sizeOf38 (hS.at _) rfl rfl)) ?_
      refine qcallf rfl Try.call94 (.cons rfl (.cons rfl .nil)) (fun w hS => c_High1) ?_
      refine qv (fun w hS => (yGtr rfl rfl)) ?_
      clear hS; refine qnil (fun w hS => ?_)
      show Code.wp _ _ _ _ _
      refine cond rfl (fun c27 => ?_) (fun c27 => ?_)
      ·
        simp only [Bool.and_eq_true, Bool.or_eq_true, Bool.and_eq_false_iff, Bool.or_eq_false_iff, decide_eq_true_eq, decide_eq_false_iff_not, Bool.not_eq_true, Bool.not_eq_false, Bool.not_not, Bool.not_eq_eq_eq_not, Bool.not_true, Bool.not_false, Bool.false_eq_true, Bool.true_eq_false, ne_eq, Decidable.not_not, not_false_eq_true, not_true_eq_false, cmpI_gt] at c27
        refine region ?_
        refine sv (yMove h0) ?_
        refine sv (yMove h6) ?_
        refine sv (yIxa rfl haq rfl Try.runUnderlying61 Try.sizeOf38 (by omega) (by omega)) ?_
        refine sv (yLdA rfl Try.isAgg38 Try.sizeOf38 (hcsq.ext hS.ext) rfl) ?_
        refine sst hS h5 rfl Try.sizeOf38 rfl rfl rfl rfl ?_; clear hS; intro w hS
        refine nil ?_
        show Code.wp _ _ _ _ _
        refine region ?_
        refine sv (yMove h6) ?_
        refine sv (yAdd rfl rfl ⟨by omega, by omega⟩) ?_
        refine sv (yAsg rfl) ?_
        refine nil ?_
        exact ⟨_, _, rfl, ⟨k + 1, y, h0, h1, h4, h5, rfl, hS, (by omega), (List.mem_of_getElem? hxq), (snoc (fun i hi s hs => by have := hI i hi s hs; omega) (fun s hs => by rw [hxq] at hs; obtain rfl := Option.some.inj hs; exact Int.le_refl _)), rfl⟩, by omega⟩
      ·
        simp only [Bool.and_eq_true, Bool.or_eq_true, Bool.and_eq_false_iff, Bool.or_eq_false_iff, decide_eq_true_eq, decide_eq_false_iff_not, Bool.not_eq_true, Bool.not_eq_false, Bool.not_not, Bool.not_eq_eq_eq_not, Bool.not_true, Bool.not_false, Bool.false_eq_true, Bool.true_eq_false, ne_eq, Decidable.not_not, not_false_eq_true, not_true_eq_false, cmpI_gt] at c27
        refine skip ?_
        show Code.wp _ _ _ _ _
        refine region ?_
        refine sv (yMove h6) ?_
        refine sv (yAdd rfl rfl ⟨by omega, by omega⟩) ?_
        refine sv (yAsg rfl) ?_
        refine nil ?_
        exact ⟨_, _, rfl, ⟨k + 1, m, h0, h1, h4, h5, rfl, hS, (by omega), (hm), (snoc hI (fun s hs => by rw [hxq] at hs; obtain rfl := Option.some.inj hs; omega)), rfl⟩, by omega⟩
    ·
      simp only [Bool.and_eq_true, Bool.or_eq_true, Bool.and_eq_false_iff, Bool.or_eq_false_iff, decide_eq_true_eq, decide_eq_false_iff_not, Bool.not_eq_true, Bool.not_eq_false, Bool.not_not, Bool.not_eq_eq_eq_not, Bool.not_true, Bool.not_false, Bool.false_eq_true, Bool.true_eq_false, ne_eq, Decidable.not_not, not_false_eq_true, not_true_eq_false] at c17
      obtain rfl : k = l.length := by omega
      refine exit ?_
      show Code.wp _ _ _ _ _
      refine seq ?_
      refine region ?_
      refine sv (yLdBA h5 Try.isAgg38 Try.sizeOf38 (hS.at _) rfl rfl) ?_
      refine sst hS h4 rfl Try.sizeOf38 rfl rfl rfl rfl ?_; clear hS; intro w hS
      refine nil ?_
      show Code.wp _ _ _ _ _
      refine wp_ret ?_
      refine retQ (resV1 rfl (rc h4 Try.isAgg38 Try.sizeOf38 (hS.at _) rfl rfl)) ?_
      exact ⟨m, rfl, hm, fun s hs => by obtain ⟨i, hi⟩ := List.getElem?_of_mem hs; exact hI i (List.getElem?_eq_some_iff.1 hi).1 s hi, hS.ext⟩
set_option maxHeartbeats 1000000 in
/-- barrage/tide.High -/
theorem c_High {t : Table} {cs : List Value} {a n : Int} {w0 : World} (ht : RTable w0 cs t) (hia : I64 a) (hin : I64 n) : CE Try.prog 46 #[.agg cs.toArray, .int .i64 a, .int .i64 n] w0 (fun v w' => ∃ sv, v = .tuple #[sv, .int .i64 (levelsE t a n)] ∧ St w0 w' [rowI sv 3 1 (highF t a n).length ((highF t a n).flatMap encI)]) := by
  obtain ⟨cv, rfl, hmean, hsl⟩ := id ht
  obtain ⟨aa, cap, rfl, hcap, hmx, hel⟩ := id hsl
  refine enter Try.func46 rfl Try.ntmps46 rfl ?_
  have hS := St.start w0
  refine seq ?_
  refine region ?_
  refine sbox hS rfl rfl ?_; clear hS; intro b3 w hS
  refine sv (yAsg rfl) ?_
  refine sv (yAsg rfl) ?_
  refine nil ?_
  show Code.wp _ _ _ _ _
  refine seq ?_
  refine region ?_
  refine sv (yLdBA rfl Try.isAgg24 Try.sizeOf24 (hS.at _) rfl rfl) ?_
  refine sv (yMove rfl) ?_
  refine sv (yMove rfl) ?_
  refine scall Try.call34 (.cons rfl (.cons rfl (.cons rfl .nil))) (c_Levels (ht.ext hS.ext)) ?_
  rintro _ w ⟨sv, rfl, hM⟩; replace hS := hS.call1 hM; clear hM; obtain ⟨al, capl, rfl⟩ := row_shape (hS.row sv)
  refine sv (yMove rfl) ?_
  refine sv (yExt rfl rfl) ?_
  refine sv (yExt rfl rfl) ?_
  refine sv (yAsg rfl) ?_
  refine sv (yAsg rfl) ?_
  refine nil ?_
  show Code.wp _ _ _ _ _
  refine seq ?_
  refine seq ?_
  refine region ?_
  refine sv (yMove rfl) ?_
  refine sv (yNeq rfl rfl) ?_
  refine sv (yMove rfl) ?_
  refine sg rfl rfl rfl (fun g => (yMove rfl)) (fun v24 g24 => ?_)
  refine sg rfl rfl rfl (fun g => (yEql (g24.1 g) rfl)) (fun v25 g25 => ?_)
  refine sv (yOr rfl rfl (fun hB => (g25.1 hB))) ?_
  refine nil ?_
  show Code.wp _ _ _ _ _
  refine cond rfl (fun c26 => ?_) (fun c26 => ?_)
  ·
    simp only [Bool.and_eq_true, Bool.or_eq_true, Bool.and_eq_false_iff, Bool.or_eq_false_iff, decide_eq_true_eq, decide_eq_false_iff_not, Bool.not_eq_true, Bool.not_eq_false, Bool.not_not, Bool.not_eq_eq_eq_not, Bool.not_true, Bool.not_false, Bool.false_eq_true, Bool.true_eq_false, ne_eq, Decidable.not_not, not_false_eq_true, not_true_eq_false] at c26
    refine seq ?_
    refine region ?_
    refine sv (yMove rfl) ?_
    refine sv (yAsg rfl) ?_
    refine sv (yAsg rfl) ?_
    refine nil ?_
    show Code.wp _ _ _ _ _
    refine wp_ret (thenR ?_)
    refine retQ (res2 rfl rfl rfl) ?_
    refine ⟨.slice none 0 0, rfl, ?_⟩
    have hnil : highF t a n = [] := by
      unfold highF
      by_cases hz : levelsE t a n = 0
      · rw [if_neg (fun h => h hz)]
        have : levelsF t a n = [] := by
          rw [levelsF_good hz]
          rcases c26 with h | h
          · exact absurd hz h
          · rw [h]; rfl
        rw [this]; rfl
      · rw [if_pos hz]
    rw [hnil]
    exact (hS.sub (List.nil_sublist _)).nilrow 3 1
  ·
    simp only [Bool.and_eq_true, Bool.or_eq_true, Bool.and_eq_false_iff, Bool.or_eq_false_iff, decide_eq_true_eq, decide_eq_false_iff_not, Bool.not_eq_true, Bool.not_eq_false, Bool.not_not, Bool.not_eq_eq_eq_not, Bool.not_true, Bool.not_false, Bool.false_eq_true, Bool.true_eq_false, ne_eq, Decidable.not_not, not_false_eq_true, not_true_eq_false] at c26
    obtain ⟨hz, hn0⟩ := c26
    obtain ⟨_, hz2, hz3⟩ := levelsE_zero hz
    have hok2 := levelsF_ok (t := t) (a := a) (n := n)
    have hlen : (levelsF t a n).length = n.toNat := by rw [levelsF_good hz, lvlsL_len]
    generalize hll : levelsF t a n = l at *
    have hne : l ≠ [] := fun h => by rw [h] at hlen; have : n.toNat = 0 := hlen.symm; omega
    refine skip ?_
    show Code.wp _ _ _ _ _
    refine seq ?_
    refine region ?_
    refine sv (yMove rfl) ?_
    refine scall Try.call93 (.cons rfl (.cons rfl .nil)) (c_MaxSpan (sl_spans (hS.row (.slice al l.length capl)) rfl hok2) hne) ?_
    rintro _ w ⟨M, rfl, hM1, hM2, hE⟩; replace hS := hS.step hE; clear hE
    refine sv (yFld rfl Try.underlying38 rfl Try.isAgg3 rfl) ?_
    refine sv (yAsg rfl) ?_
    refine nil ?_
    show Code.wp _ _ _ _ _
    refine seq ?_
    refine region ?_
    refine sv (yAsg rfl) ?_
    refine nil ?_
    show Code.wp _ _ _ _ _
    refine seq ?_
    refine seq ?_
    refine region ?_
    refine sv (yMove rfl) ?_
    refine sv (yLen rfl Try.underlying61) ?_
    refine sv (yMove rfl) ?_
    refine nil ?_
    show Code.wp _ _ _ _ _
    refine block ?_
    refine loop (fun f w zz => ∃ (k : Nat) (v : Value), f 1 = .int .i64 a ∧ f 10 = .int .i64 M.lo ∧ f 11 = v ∧ f 31 = .slice al l.length capl ∧ f 32 = .int .i64 (l.length : Int) ∧ f 33 = .int .i64 (k : Int) ∧ StX [] w0 w [rowI v 3 1 (highsK l a (k)).length ((highsK l a (k)).flatMap encI), rowI (.slice al l.length capl) 38 2 l.length (l.flatMap spanC)] ∧ (k ≤ l.length) ∧ zz = l.length - k) _ ⟨_, rfl, 0, _, rfl, rfl, rfl, rfl, rfl, rfl, ((hS.nilrow 3 1).sub (.cons_cons _ (.cons_cons _ (List.nil_sublist _)))), (Nat.zero_le _), rfl⟩ ?_
    clear hS
    rintro f w _ ⟨k, v, h1, h10, h11, h31, h32, h33, hS, hk, rfl⟩
    refine seq ?_
    refine region ?_
    refine sv (yLss h33 h32) ?_
    refine nil ?_
    show Code.wp _ _ _ _ _
    refine seq ?_
    refine cond rfl (fun c34 => ?_) (fun c34 => ?_)
    ·
      simp only [Bool.and_eq_true, Bool.or_eq_true, Bool.and_eq_false_iff, Bool.or_eq_false_iff, decide_eq_true_eq, decide_eq_false_iff_not, Bool.not_eq_true, Bool.not_eq_false, Bool.not_not, Bool.not_eq_eq_eq_not, Bool.not_true, Bool.not_false, Bool.false_eq_true, Bool.true_eq_false, ne_eq, Decidable.not_not, not_false_eq_true, not_true_eq_false] at c34
      obtain ⟨s, hx, hd⟩ := drop_of (l := l) (k := k) (by omega)
      obtain ⟨g, hag, hcg⟩ := row_get (hS.row (.slice al l.length capl)) (by omega)
      have hcs := flat_cells spanC_len hcg hx
      have hab := hz3 (by omega)
      refine skip ?_
      show Code.wp _ _ _ _ _
      refine seq ?_
      refine block ?_
      refine seq ?_
      refine region ?_
      refine sv (yMove h33) ?_
      refine sv (yIxa h31 hag h33 Try.runUnderlying61 Try.sizeOf38 (by omega) (by omega)) ?_
      refine sv (yLdA rfl Try.isAgg38 Try.sizeOf38 hcs rfl) ?_
      refine salloc hS Try.zeroValue38 rfl ?_; clear hS; intro b13 w hS
      refine sv (yAsg rfl) ?_
      refine sst hS rfl rfl Try.sizeOf38 rfl rfl rfl rfl ?_; clear hS; intro w hS
      refine nil ?_
      show Code.wp _ _ _ _ _
      refine seq ?_
      refine region ?_
      refine sv (fa38_1 rfl) ?_
      refine sv (yLdB rfl Try.isAgg3 (hS.at _) rfl) ?_
      refine sv (yMove h10) ?_
      refine sv (yGeq rfl rfl) ?_
      refine nil ?_
      show Code.wp _ _ _ _ _
      refine cond rfl (fun c41 => ?_) (fun c41 => ?_)
      ·
        simp only [Bool.and_eq_true, Bool.or_eq_true, Bool.and_eq_false_iff, Bool.or_eq_false_iff, decide_eq_true_eq, decide_eq_false_iff_not, Bool.not_eq_true, Bool.not_eq_false, Bool.not_not, Bool.not_eq_eq_eq_not, Bool.not_true, Bool.not_false, Bool.false_eq_true, Bool.true_eq_false, ne_eq, Decidable.not_not, not_false_eq_true, not_true_eq_false] at c41
        have hcan : canB l k = true := by rw [canB_max hM1 hM2 hx]; exact decide_eq_true c41
        have hhl := highsK_len l a k
        refine region ?_
        refine sv (yMove h11) ?_
        refine sv (yMove h1) ?_
        refine sv (yMove rfl) ?_
        refine sv (yAdd rfl rfl ⟨by omega, by omega⟩) ?_
        refine sbslice hS Try.underlying44 Try.sizeOf3 rfl Try.zeroValue3 rfl (.cons rfl rfl .nil) rfl ?_; clear hS; intro b46 w hS
        refine sapp (bytes := 8) (size := 1) (v := v) (m := 1) hS rfl rfl Try.underlying44 ti3 rfl rfl rfl rfl (by decide) (blk_cells (hS.at _)) rfl rfl (by omega) (by omega) ?_; clear hS; intro v47 w hS
        refine sv (yAsg rfl) ?_
        refine nil ?_
        show Code.wp _ _ _ _ _
        refine region ?_
        refine sv (yAdd h33 rfl ⟨by omega, by omega⟩) ?_
        refine sv (yMove rfl) ?_
        refine nil ?_
        exact ⟨_, _, rfl, ⟨k + 1, _, h1, h10, rfl, h31, h32, rfl, (by rw [highsK_in hcan, List.flatMap_append, List.length_append]; exact hS.sub (.cons _ (.cons _ (List.Sublist.refl _)))), (by omega), rfl⟩, by omega⟩
      ·
        simp only [Bool.and_eq_true, Bool.or_eq_true, Bool.and_eq_false_iff, Bool.or_eq_false_iff, decide_eq_true_eq, decide_eq_false_iff_not, Bool.not_eq_true, Bool.not_eq_false, Bool.not_not, Bool.not_eq_eq_eq_not, Bool.not_true, Bool.not_false, Bool.false_eq_true, Bool.true_eq_false, ne_eq, Decidable.not_not, not_false_eq_true, not_true_eq_false] at c41
        have hcan : canB l k = false := by rw [canB_max hM1 hM2 hx]; exact decide_eq_false c41
        refine skip ?_
        show Code.wp _ _ _ _ _
        refine region ?_
        refine sv (yAdd h33 rfl ⟨by omega, by omega⟩) ?_
        refine sv (yMove rfl) ?_
        refine nil ?_
        exact ⟨_, _, rfl, ⟨k + 1, v, h1, h10, h11, h31, h32, rfl, (by rw [highsK_out hcan]; exact hS.sub (.cons _ (List.Sublist.refl _))), (by omega), rfl⟩, by omega⟩
    ·
      simp only [Bool.and_eq_true, Bool.or_eq_true, Bool.and_eq_false_iff, Bool.or_eq_false_iff, decide_eq_true_eq, decide_eq_false_iff_not, Bool.not_eq_true, Bool.not_eq_false, Bool.not_not, Bool.not_eq_eq_eq_not, Bool.not_true, Bool.not_false, Bool.false_eq_true, Bool.true_eq_false, ne_eq, Decidable.not_not, not_false_eq_true, not_true_eq_false] at c34
      obtain rfl : k = l.length := by omega
      refine exit ?_
      show Code.wp _ _ _ _ _
      refine seq ?_
      refine region ?_
      refine sv (yMove h11) ?_
      refine sv (yAsg rfl) ?_
      refine sv (yAsg rfl) ?_
      refine nil ?_
      show Code.wp _ _ _ _ _
      refine wp_ret ?_
      refine retQ (res2 rfl rfl rfl) ?_
      refine ⟨v, by rw [hz]; rfl, ?_⟩
      unfold highF
      rw [if_neg (fun h => h hz), hll]
      exact hS.sub (.cons_cons _ (List.nil_sublist _))
set_option maxHeartbeats 1000000 in
/-- barrage/barrageref01.High -/
theorem c_rHigh {t : Table} {cs : List Value} {a n : Int} {w0 : World} (ht : RTable w0 cs t) (hia : I64 a) (hin : I64 n) : CE Try.prog 47 #[.agg cs.toArray, .int .i64 a, .int .i64 n] w0 (fun v w' => ∃ sv, v = .tuple #[sv, .int .i64 (levelsE t a n)] ∧ St w0 w' [rowI sv 3 1 (highF t a n).length ((highF t a n).flatMap encI)]) := by
  obtain ⟨cv, rfl, hmean, hsl⟩ := id ht
  obtain ⟨aa, cap, rfl, hcap, hmx, hel⟩ := id hsl
  refine enter Try.func47 rfl Try.ntmps47 rfl ?_
  have hS := St.start w0
  refine seq ?_
  refine region ?_
  refine sbox hS rfl rfl ?_; clear hS; intro b3 w hS
  refine sv (yAsg rfl) ?_
  refine sv (yAsg rfl) ?_
  refine nil ?_
  show Code.wp _ _ _ _ _
  refine seq ?_
  refine region ?_
  refine sv (yLdBA rfl Try.isAgg24 Try.sizeOf24 (hS.at _) rfl rfl) ?_
  refine sv (yMove rfl) ?_
  refine sv (yMove rfl) ?_
  refine scall Try.call35 (.cons rfl (.cons rfl (.cons rfl .nil))) (c_rLevels (ht.ext hS.ext) hia hin) ?_
  rintro _ w ⟨sv, rfl, hM⟩; replace hS := hS.call1 hM; clear hM; obtain ⟨al, capl, rfl⟩ := row_shape (hS.row sv)
  refine sv (yMove rfl) ?_
  refine sv (yExt rfl rfl) ?_
  refine sv (yExt rfl rfl) ?_
  refine sv (yAsg rfl) ?_
  refine sv (yAsg rfl) ?_
  refine nil ?_
  show Code.wp _ _ _ _ _
  refine seq ?_
  refine seq ?_
  refine region ?_
  refine sv (yMove rfl) ?_
  refine sv (yNeq rfl rfl) ?_
  refine nil ?_
  show Code.wp _ _ _ _ _
  refine cond rfl (fun c22 => ?_) (fun c22 => ?_)
  ·
    simp only [Bool.and_eq_true, Bool.or_eq_true, Bool.and_eq_false_iff, Bool.or_eq_false_iff, decide_eq_true_eq, decide_eq_false_iff_not, Bool.not_eq_true, Bool.not_eq_false, Bool.not_not, Bool.not_eq_eq_eq_not, Bool.not_true, Bool.not_false, Bool.false_eq_true, Bool.true_eq_false, ne_eq, Decidable.not_not, not_false_eq_true, not_true_eq_false] at c22
    refine seq ?_
    refine region ?_
    refine sv (yMove rfl) ?_
    refine sv (yAsg rfl) ?_
    refine sv (yAsg rfl) ?_
    refine nil ?_
    show Code.wp _ _ _ _ _
    refine wp_ret (thenR ?_)
    refine retQ (res2 rfl rfl rfl) ?_
    refine ⟨.slice none 0 0, rfl, ?_⟩
    have hnil : highF t a n = [] := by
      unfold highF
      by_cases hz : levelsE t a n = 0
      · rw [if_neg (fun h => h hz)]
        have : levelsF t a n = [] := by
          rw [levelsF_good hz]
          rcases (Or.inl c22 : levelsE t a n ≠ 0 ∨ n = 0) with h | h
          · exact absurd hz h
          · rw [h]; rfl
        rw [this]; rfl
      · rw [if_pos hz]
    rw [hnil]
    exact (hS.sub (List.nil_sublist _)).nilrow 3 1
  ·
    simp only [Bool.and_eq_true, Bool.or_eq_true, Bool.and_eq_false_iff, Bool.or_eq_false_iff, decide_eq_true_eq, decide_eq_false_iff_not, Bool.not_eq_true, Bool.not_eq_false, Bool.not_not, Bool.not_eq_eq_eq_not, Bool.not_true, Bool.not_false, Bool.false_eq_true, Bool.true_eq_false, ne_eq, Decidable.not_not, not_false_eq_true, not_true_eq_false] at c22
    have hz := c22
    obtain ⟨_, hz2, hz3⟩ := levelsE_zero hz
    have hok2 := levelsF_ok (t := t) (a := a) (n := n)
    have hlen : (levelsF t a n).length = n.toNat := by rw [levelsF_good hz, lvlsL_len]
    generalize hll : levelsF t a n = l at *
    refine skip ?_
    show Code.wp _ _ _ _ _
    refine seq ?_
    refine region ?_
    refine sv (yAsg rfl) ?_
    refine nil ?_
    show Code.wp _ _ _ _ _
    refine seq ?_
    refine seq ?_
    refine region ?_
    refine sv (yAsg rfl) ?_
    refine nil ?_
    show Code.wp _ _ _ _ _
    refine block ?_
    refine loop (fun f w zz => ∃ (k : Nat) (v : Value), f 1 = .int .i64 a ∧ f 8 = .slice al l.length capl ∧ f 10 = v ∧ f 11 = .int .i64 (k : Int) ∧ StX [] w0 w [rowI v 3 1 (highsK l a (k)).length ((highsK l a (k)).flatMap encI), rowI (.slice al l.length capl) 38 2 l.length (l.flatMap spanC)] ∧ (k ≤ l.length) ∧ zz = l.length - k) _ ⟨_, rfl, 0, _, rfl, rfl, rfl, rfl, ((hS.nilrow 3 1).sub (.cons_cons _ (.cons_cons _ (List.nil_sublist _)))), (Nat.zero_le _), rfl⟩ ?_
    clear hS
    rintro f w _ ⟨k, v, h1, h8, h10, h11, hS, hk, rfl⟩
    refine seq ?_
    refine seq ?_
    refine region ?_
    refine sv (yMove h11) ?_
    refine sv (yMove h8) ?_
    refine sv (yLen rfl Try.underlying61) ?_
    refine sv (yLss rfl rfl) ?_
    refine nil ?_
    show Code.wp _ _ _ _ _
    refine cond rfl (fun c27 => ?_) (fun c27 => ?_)
    ·
      simp only [Bool.and_eq_true, Bool.or_eq_true, Bool.and_eq_false_iff, Bool.or_eq_false_iff, decide_eq_true_eq, decide_eq_false_iff_not, Bool.not_eq_true, Bool.not_eq_false, Bool.not_not, Bool.not_eq_eq_eq_not, Bool.not_true, Bool.not_false, Bool.false_eq_true, Bool.true_eq_false, ne_eq, Decidable.not_not, not_false_eq_true, not_true_eq_false] at c27
      obtain ⟨s, hx, hd⟩ := drop_of (l := l) (k := k) (by omega)
      obtain ⟨g, hag, hcg⟩ := row_get (hS.row (.slice al l.length capl)) (by omega)
      have hcs := flat_cells spanC_len hcg hx
      have hab := hz3 (by omega)
      refine skip ?_
      show Code.wp _ _ _ _ _
      refine seq ?_
      refine block ?_
      refine seq ?_
      refine region ?_
      refine sv (yAsg rfl) ?_
      refine nil ?_
      show Code.wp _ _ _ _ _
      refine seq ?_
      refine seq ?_
      refine region ?_
      refine sv (yAsg rfl) ?_
      refine nil ?_
      show Code.wp _ _ _ _ _
      refine block ?_
      refine loop (fun f w zz => ∃ (j : Nat), f 1 = .int .i64 a ∧ f 8 = .slice al l.length capl ∧ f 10 = v ∧ f 11 = .int .i64 (k : Int) ∧ f 12 = .bool (allK l s.hi j) ∧ f 13 = .int .i64 (j : Int) ∧ StX [] w0 w [rowI v 3 1 (highsK l a (k)).length ((highsK l a (k)).flatMap encI), rowI (.slice al l.length capl) 38 2 l.length (l.flatMap spanC)] ∧ (j ≤ l.length) ∧ zz = l.length - j) _ ⟨_, rfl, 0, h1, h8, h10, h11, rfl, rfl, hS, (Nat.zero_le _), rfl⟩ ?_
      clear hS
      rintro f w _ ⟨j, h1, h8, h10, h11, h12, h13, hS, hj, rfl⟩
      refine seq ?_
      refine seq ?_
      refine region ?_
      refine sv (yMove h13) ?_
      refine sv (yMove h8) ?_
      refine sv (yLen rfl Try.underlying61) ?_
      refine sv (yLss rfl rfl) ?_
      refine nil ?_
      show Code.wp _ _ _ _ _
      refine cond rfl (fun c33 => ?_) (fun c33 => ?_)
      ·
        simp only [Bool.and_eq_true, Bool.or_eq_true, Bool.and_eq_false_iff, Bool.or_eq_false_iff, decide_eq_true_eq, decide_eq_false_iff_not, Bool.not_eq_true, Bool.not_eq_false, Bool.not_not, Bool.not_eq_eq_eq_not, Bool.not_true, Bool.not_false, Bool.false_eq_true, Bool.true_eq_false, ne_eq, Decidable.not_not, not_false_eq_true, not_true_eq_false] at c33
        obtain ⟨u, hxq, hdq⟩ := drop_of (l := l) (k := j) (by omega)
        obtain ⟨gq, hagq, hcgq⟩ := row_get (hS.row (.slice al l.length capl)) (by omega)
        have hcsq := flat_cells spanC_len hcgq hxq
        obtain ⟨gk, hagk, hcgk⟩ := row_get (hS.row (.slice al l.length capl)) (by omega)
        have hcsk := flat_cells spanC_len hcgk hx
        refine skip ?_
        show Code.wp _ _ _ _ _
        refine seq ?_
        refine block ?_
        refine region_draw mixed (by kernel_rfl) hS ?_
        refine qv (fun w hS => (yMove h12)) ?_
        refine qv (fun w hS => (yMove rfl)) ?_
        refine qg rfl rfl rfl (fun g w hS => (yMove h8)) (fun v38 g38 => ?_)
        refine qg rfl rfl rfl (fun g w hS => (yMove h11)) (fun v39 g39 => ?_)
        refine qg rfl rfl rfl (fun g w hS => (yIxa (g38.1 g) hagk (g39.1 g) Try.runUnderlying61 Try.sizeOf38 (by omega) (by omega))) (fun v40 g40 => ?_)
        refine qg rfl rfl rfl (fun g w hS => (fa38_1 (g40.1 g))) (fun v41 g41 => ?_)
        refine qg rfl rfl rfl (fun g w hS => (yLd (g41.1 g) Try.isAgg3 ((flat_cells spanC_len (row_at (hS.row (.slice al l.length capl)) hagk (by omega)) hx).at (j := 1) rfl))) (fun v42 g42 => ?_)
        refine qg rfl rfl rfl (fun g w hS => (yMove h8)) (fun v43 g43 => ?_)
        refine qg rfl rfl rfl (fun g w hS => (yMove h13)) (fun v44 g44 => ?_)
        refine qg rfl rfl rfl (fun g w hS => (yIxa (g43.1 g) hagq (g44.1 g) Try.runUnderlying61 Try.sizeOf38 (by omega) (by omega))) (fun v45 g45 => ?_)
        refine qg rfl rfl rfl (fun g w hS => (fa38_0 (g45.1 g))) (fun v46 g46 => ?_)
        refine qg rfl rfl rfl (fun g w hS => (yLd (g46.1 g) Try.isAgg3 ((flat_cells spanC_len (row_at (hS.row (.slice al l.length capl)) hagq (by omega)) hxq).one))) (fun v47 g47 => ?_)
        refine qg rfl rfl rfl (fun g w hS => (yGeq (g42.1 g) (g47.1 g))) (fun v48 g48 => ?_)
        refine qv (fun w hS => (yAnd rfl (fun hB => (g48.1 hB)) rfl)) ?_
        refine qv (fun w hS => (yAsg rfl)) ?_
        clear hS; refine qnil (fun w hS => ?_)
        show Code.wp _ _ _ _ _
        refine region ?_
        refine sv (yMove h13) ?_
        refine sv (yAdd rfl rfl ⟨by omega, by omega⟩) ?_
        refine sv (yAsg rfl) ?_
        refine nil ?_
        exact ⟨_, _, rfl, ⟨j + 1, h1, h8, h10, h11, (by rw [allK_succ hxq]; exact rfl), rfl, hS, (by omega), rfl⟩, by omega⟩
      ·
        simp only [Bool.and_eq_true, Bool.or_eq_true, Bool.and_eq_false_iff, Bool.or_eq_false_iff, decide_eq_true_eq, decide_eq_false_iff_not, Bool.not_eq_true, Bool.not_eq_false, Bool.not_not, Bool.not_eq_eq_eq_not, Bool.not_true, Bool.not_false, Bool.false_eq_true, Bool.true_eq_false, ne_eq, Decidable.not_not, not_false_eq_true, not_true_eq_false] at c33
        obtain rfl : j = l.length := by omega
        rw [allK_all hx] at h12
        refine exit ?_
        show Code.wp _ _ _ _ _
        refine seq ?_
        refine region ?_
        refine sv (yMove h12) ?_
        refine nil ?_
        show Code.wp _ _ _ _ _
        refine cond rfl (fun c50 => ?_) (fun c50 => ?_)
        ·
          have hcan : canB l k = true := c50
          have hhl := highsK_len l a k
          refine region ?_
          refine sv (yMove h10) ?_
          refine sv (yMove h1) ?_
          refine sv (yMove h11) ?_
          refine sv (yAdd rfl rfl ⟨by omega, by omega⟩) ?_
          refine sbslice hS Try.underlying44 Try.sizeOf3 rfl Try.zeroValue3 rfl (.cons rfl rfl .nil) rfl ?_; clear hS; intro b55 w hS
          refine sapp (bytes := 8) (size := 1) (v := v) (m := 1) hS rfl rfl Try.underlying44 ti3 rfl rfl rfl rfl (by decide) (blk_cells (hS.at _)) rfl rfl (by omega) (by omega) ?_; clear hS; intro v56 w hS
          refine sv (yAsg rfl) ?_
          refine nil ?_
          show Code.wp _ _ _ _ _
          refine region ?_
          refine sv (yMove h11) ?_
          refine sv (yAdd rfl rfl ⟨by omega, by omega⟩) ?_
          refine sv (yAsg rfl) ?_
          refine nil ?_
          exact ⟨_, _, rfl, ⟨k + 1, _, h1, h8, rfl, rfl, (by rw [highsK_in hcan, List.flatMap_append, List.length_append]; exact hS.sub (.cons _ (List.Sublist.refl _))), (by omega), rfl⟩, by omega⟩
        ·
          have hcan : canB l k = false := by simpa using c50
          refine skip ?_
          show Code.wp _ _ _ _ _
          refine region ?_
          refine sv (yMove h11) ?_
          refine sv (yAdd rfl rfl ⟨by omega, by omega⟩) ?_
          refine sv (yAsg rfl) ?_
          refine nil ?_
          exact ⟨_, _, rfl, ⟨k + 1, v, h1, h8, h10, rfl, (by rw [highsK_out hcan]; exact hS), (by omega), rfl⟩, by omega⟩
    ·
      simp only [Bool.and_eq_true, Bool.or_eq_true, Bool.and_eq_false_iff, Bool.or_eq_false_iff, decide_eq_true_eq, decide_eq_false_iff_not, Bool.not_eq_true, Bool.not_eq_false, Bool.not_not, Bool.not_eq_eq_eq_not, Bool.not_true, Bool.not_false, Bool.false_eq_true, Bool.true_eq_false, ne_eq, Decidable.not_not, not_false_eq_true, not_true_eq_false] at c27
      obtain rfl : k = l.length := by omega
      refine exit ?_
      show Code.wp _ _ _ _ _
      refine seq ?_
      refine region ?_
      refine sv (yMove h10) ?_
      refine sv (yAsg rfl) ?_
      refine sv (yAsg rfl) ?_
      refine nil ?_
      show Code.wp _ _ _ _ _
      refine wp_ret ?_
      refine retQ (res2 rfl rfl rfl) ?_
      refine ⟨v, by rw [hz]; rfl, ?_⟩
      unfold highF
      rw [if_neg (fun h => h hz), hll]
      exact hS.sub (.cons_cons _ (List.nil_sublist _))
end Go.Proofs.Ytpgmehignepidaa
/- part Wk17 -/
namespace Go.Proofs.Ytpgmehignepidaa
open Go Bx
/-- barrage/barrageref01.gcd -/
theorem c_gcd0 {a b : Nat} {w0 : World} : CV Try.prog 96 #[.int .i64 (a : Int), .int .i64 (b : Int)] w0 (.int .i64 ((Nat.gcd a b : Nat) : Int)) := by
  refine enter Try.func96 rfl Try.ntmps96 rfl ?_
  have hS := St.start w0
  refine seq ?_
  refine region ?_
  refine sv (yAsg rfl) ?_
  refine nil ?_
  show Code.wp _ _ _ _ _
  refine seq ?_
  refine block ?_
  refine loop (fun f w zz => ∃ (x y : Nat), f 0 = .int .i64 (x : Int) ∧ f 1 = .int .i64 (y : Int) ∧ StX [] w0 w [] ∧ (Nat.gcd x y = Nat.gcd a b) ∧ zz = 0 + y) _ ⟨_, rfl, a, b, rfl, rfl, hS, (rfl), rfl⟩ ?_
  clear hS
  rintro f w _ ⟨x, y, h0, h1, hS, hG, rfl⟩
  refine seq ?_
  refine seq ?_
  refine region ?_
  refine sv (yMove h1) ?_
  refine sv (yGtr rfl rfl) ?_
  refine nil ?_
  show Code.wp _ _ _ _ _
  refine cond rfl (fun c6 => ?_) (fun c6 => ?_)
  ·
    simp only [Bool.and_eq_true, Bool.or_eq_true, Bool.and_eq_false_iff, Bool.or_eq_false_iff, decide_eq_true_eq, decide_eq_false_iff_not, Bool.not_eq_true, Bool.not_eq_false, Bool.not_not, Bool.not_eq_eq_eq_not, Bool.not_true, Bool.not_false, Bool.false_eq_true, Bool.true_eq_false, ne_eq, Decidable.not_not, not_false_eq_true, not_true_eq_false] at c6
    refine skip ?_
    show Code.wp _ _ _ _ _
    refine block ?_
    refine region_draw mixed (by kernel_rfl) hS ?_
    refine qv (fun w hS => (yMove h1)) ?_
    refine qv (fun w hS => (yMove h0)) ?_
    refine qv (fun w hS => (yMove h1)) ?_
    refine qv (fun w hS => (Y.to (yRemP rfl rfl (by omega) (by omega)) (show Value.int .i64 ((x : Int) % (y : Int)) = .int .i64 ((x % y : Nat) : Int) by rw [Int.natCast_emod]))) ?_
    refine qv (fun w hS => (yAsg rfl)) ?_
    refine qv (fun w hS => (yAsg rfl)) ?_
    clear hS; refine qnil (fun w hS => ?_)
    exact ⟨_, _, rfl, ⟨y, x % y, rfl, rfl, hS, (by rw [← hG, Nat.gcd_comm x y, Nat.gcd_rec y x, Nat.gcd_comm]), rfl⟩, by have := Nat.mod_lt x (show 0 < y by omega); omega⟩
  ·
    simp only [Bool.and_eq_true, Bool.or_eq_true, Bool.and_eq_false_iff, Bool.or_eq_false_iff, decide_eq_true_eq, decide_eq_false_iff_not, Bool.not_eq_true, Bool.not_eq_false, Bool.not_not, Bool.not_eq_eq_eq_not, Bool.not_true, Bool.not_false, Bool.false_eq_true, Bool.true_eq_false, ne_eq, Decidable.not_not, not_false_eq_true, not_true_eq_false] at c6
    refine exit ?_
    show Code.wp _ _ _ _ _
    refine seq ?_
    refine region ?_
    refine sv (yMove h0) ?_
    refine sv (yAsg rfl) ?_
    refine nil ?_
    show Code.wp _ _ _ _ _
    obtain rfl : y = 0 := by omega
    refine wp_ret ?_
    exact retV (res1 rfl (eqI (by rw [← hG, Nat.gcd_zero_right]))) hS.ext
theorem c_gcd {a b : Int} {w0 : World} (ha : 0 ≤ a) (hb : 0 ≤ b) : CV Try.prog 96 #[.int .i64 a, .int .i64 b] w0 (.int .i64 (gcdI a b)) := by
  obtain ⟨a, rfl⟩ := Int.eq_ofNat_of_zero_le ha
  obtain ⟨b, rfl⟩ := Int.eq_ofNat_of_zero_le hb
  exact c_gcd0
set_option maxHeartbeats 1000000 in
/-- barrage/barrageref01.Period -/
theorem c_rPeriod {t : Table} {cs : List Value} {w0 : World} (ht : RTable w0 cs t) : CV Try.prog 48 #[.agg cs.toArray] w0 (.tuple #[.int .i64 (periodF t).1, .int .i64 (periodF t).2]) := by
  obtain ⟨cv, rfl, hmean, hsl⟩ := id ht
  obtain ⟨a, cap, rfl, hcap, hmx, hel⟩ := id hsl
  refine enter Try.func48 rfl Try.ntmps48 rfl ?_
  have hS := St.start w0
  refine seq ?_
  refine region ?_
  refine sbox hS rfl rfl ?_; clear hS; intro b1 w hS
  refine sv (yAsg rfl) ?_
  refine sv (yAsg rfl) ?_
  refine nil ?_
  show Code.wp _ _ _ _ _
  refine seq ?_
  refine region ?_
  refine sv (yLdBA rfl Try.isAgg24 Try.sizeOf24 (hS.at _) rfl rfl) ?_
  refine scall Try.call20 (.cons rfl .nil) (c_rCheck (ht.ext hS.ext)) ?_
  rintro _ w ⟨rfl, hE⟩; replace hS := hS.step hE; clear hE
  refine sv (yMove rfl) ?_
  refine sv (yExt rfl rfl) ?_
  refine sv (yExt rfl rfl) ?_
  refine sv (yAsg rfl) ?_
  refine sv (yAsg rfl) ?_
  refine nil ?_
  show Code.wp _ _ _ _ _
  refine seq ?_
  refine seq ?_
  refine region ?_
  refine sv (yMove rfl) ?_
  refine sv (yNeq rfl rfl) ?_
  refine nil ?_
  show Code.wp _ _ _ _ _
  refine cond rfl (fun c17 => ?_) (fun c17 => ?_)
  ·
    simp only [Bool.and_eq_true, Bool.or_eq_true, Bool.and_eq_false_iff, Bool.or_eq_false_iff, decide_eq_true_eq, decide_eq_false_iff_not, Bool.not_eq_true, Bool.not_eq_false, Bool.not_not, Bool.not_eq_eq_eq_not, Bool.not_true, Bool.not_false, Bool.false_eq_true, Bool.true_eq_false, ne_eq, Decidable.not_not, not_false_eq_true, not_true_eq_false] at c17
    refine seq ?_
    refine region ?_
    refine sv (yMove rfl) ?_
    refine sv (yAsg rfl) ?_
    refine sv (yAsg rfl) ?_
    refine nil ?_
    show Code.wp _ _ _ _ _
    have hfin : periodF t = (0, (checkT t).2) := by unfold periodF; rw [if_pos c17]
    refine wp_ret (thenR ?_)
    exact retV (res2 rfl (eqI (by rw [hfin])) (eqI (by rw [hfin]))) hS.ext
  ·
    simp only [Bool.and_eq_true, Bool.or_eq_true, Bool.and_eq_false_iff, Bool.or_eq_false_iff, decide_eq_true_eq, decide_eq_false_iff_not, Bool.not_eq_true, Bool.not_eq_false, Bool.not_not, Bool.not_eq_eq_eq_not, Bool.not_true, Bool.not_false, Bool.false_eq_true, Bool.true_eq_false, ne_eq, Decidable.not_not, not_false_eq_true, not_true_eq_false] at c17
    have hok := tableOk_of c17
    refine skip ?_
    show Code.wp _ _ _ _ _
    refine seq ?_
    refine region ?_
    refine sv (yAsg rfl) ?_
    refine nil ?_
    show Code.wp _ _ _ _ _
    refine seq ?_
    refine seq ?_
    refine region ?_
    refine sv (yAsg rfl) ?_
    refine nil ?_
    show Code.wp _ _ _ _ _
    refine block ?_
    refine loop (fun f w zz => ∃ (k : Nat) (n : Int), f 1 = .pointer (some ⟨b1, 0, none⟩) ∧ f 6 = .int .i64 n ∧ f 7 = .int .i64 (k : Int) ∧ StX [] w0 w [blk b1 [.int .i64 t.mean, .slice a t.consts.length cap] 24] ∧ (k ≤ t.consts.length) ∧ (Bd n 1 1000000000) ∧ (periodF t = perL (t.consts.drop k) n) ∧ zz = t.consts.length - k) _ ⟨_, rfl, 0, 1, rfl, rfl, rfl, hS, (Nat.zero_le _), (⟨by decide, by decide⟩), (by unfold periodF; rw [if_neg (fun h => h c17)]; rfl), rfl⟩ ?_
    clear hS
    rintro f w _ ⟨k, n, h1, h6, h7, hS, hk, hn, hI, rfl⟩
    refine seq ?_
    refine seq ?_
    refine region ?_
    refine sv (yMove h7) ?_
    refine sv (fa24_1 h1) ?_
    refine sv (yLdB rfl Try.isAgg22 (hS.at _) rfl) ?_
    refine sv (yLen rfl Try.underlying22) ?_
    refine sv (yLss rfl rfl) ?_
    refine nil ?_
    show Code.wp _ _ _ _ _
    refine cond rfl (fun c23 => ?_) (fun c23 => ?_)
    ·
      simp only [Bool.and_eq_true, Bool.or_eq_true, Bool.and_eq_false_iff, Bool.or_eq_false_iff, decide_eq_true_eq, decide_eq_false_iff_not, Bool.not_eq_true, Bool.not_eq_false, Bool.not_not, Bool.not_eq_eq_eq_not, Bool.not_true, Bool.not_false, Bool.false_eq_true, Bool.true_eq_false, ne_eq, Decidable.not_not, not_false_eq_true, not_true_eq_false] at c23
      obtain ⟨c, hx, hd⟩ := drop_of (l := t.consts) (k := k) (by omega)
      obtain ⟨b, o, cs, ha, hlen, hcs, hR⟩ := hel (k) (by omega)
      obtain rfl : c = t.consts[k] := (List.getElem?_eq_some_iff.1 hx).2.symm
      generalize t.consts[k] = c at hx hd hR
      obtain ⟨hv, rfl, hn1, hsl1, hi1, hi2, hi3, hi4⟩ := hR
      have hx0 := hx
      have hcok : ConstOk c := hok.consts c (List.mem_of_getElem? hx)
      obtain ⟨a1, cap1, rfl, hq1, hq2, hel1⟩ := id hsl1
      have hcy := cyc_pos hcok
      have hden := hcok.den
      have hln := hcok.len
      have hsk := hcok.slack
      have hst := hcok.step
      have hof := hcok.off
      have hob := oneC_bd hcok
      have hqb := quo_n hn.1 hob.1
      have hpb := perS_bd hn hcok
      have hg1 := gcdI_pos (b := c.step) (show 0 < c.den * (c.heights.length : Int) by omega)
      have hg2 := gcdI_pos (b := oneC c) (show 0 < n by omega)
      refine skip ?_
      show Code.wp _ _ _ _ _
      refine seq ?_
      refine block ?_
      refine seq ?_
      refine region ?_
      refine sv (fa24_1 h1) ?_
      refine sv (yLdB rfl Try.isAgg22 (hS.at _) rfl) ?_
      refine sv (yMove h7) ?_
      refine sv (yIxa rfl ha rfl Try.runUnderlying22 Try.sizeOf46 (by omega) (by omega)) ?_
      refine sv (yLdA rfl Try.isAgg46 Try.sizeOf46 (hcs.ext hS.ext) rfl) ?_
      refine salloc hS Try.zeroValue46 rfl ?_; clear hS; intro b8 w hS
      refine sst hS rfl rfl Try.sizeOf46 rfl rfl rfl rfl ?_; clear hS; intro w hS
      refine nil ?_
      show Code.wp _ _ _ _ _
      refine seq ?_
      refine region ?_
      refine sv (fa46_4 rfl) ?_
      refine sv (yLdB rfl Try.isAgg3 (hS.at _) rfl) ?_
      refine sv (fa46_1 rfl) ?_
      refine sv (yLdB rfl Try.isAgg44 (hS.at _) rfl) ?_
      refine sv (yLen rfl Try.underlying44) ?_
      refine sv (yMul rfl rfl ⟨by omega, by omega⟩) ?_
      refine sv (yAsg rfl) ?_
      refine nil ?_
      show Code.wp _ _ _ _ _
      refine seq ?_
      refine region ?_
      refine sv (yMove rfl) ?_
      refine sv (yMove rfl) ?_
      refine sv (fa46_3 rfl) ?_
      refine sv (yLdB rfl Try.isAgg3 (hS.at _) rfl) ?_
      refine scall Try.call96 (.cons rfl (.cons rfl .nil)) (c_gcd (by omega) (by omega)) ?_
      rintro _ w ⟨rfl, hE⟩; replace hS := hS.step hE; clear hE
      refine sv (Y.to (yQuoP rfl rfl ⟨by omega, by omega⟩ hg1) (show Value.int .i64 (c.den * c.heights.length / gcdI (c.den * c.heights.length) c.step) = .int .i64 (oneC c) from rfl)) ?_
      refine sv (yAsg rfl) ?_
      refine nil ?_
      show Code.wp _ _ _ _ _
      refine seq ?_
      refine region ?_
      refine sv (yMove h6) ?_
      refine sv (yMove h6) ?_
      refine sv (yMove rfl) ?_
      refine scall Try.call96 (.cons rfl (.cons rfl .nil)) (c_gcd (by omega) (by omega)) ?_
      rintro _ w ⟨rfl, hE⟩; replace hS := hS.step hE; clear hE
      refine sv (yQuoP rfl rfl ⟨by omega, by omega⟩ hg2) ?_
      refine sv (yMove rfl) ?_
      have hpe := perS_eq hn.1 hcok
      refine sv (Y.to (yMul rfl rfl (show I64 (n / gcdI n (oneC c) * oneC c) from ⟨by omega, by omega⟩)) (show Value.int .i64 _ = .int .i64 (perS n c) by rw [hpe])) ?_
      refine sv (yAsg rfl) ?_
      refine nil ?_
      show Code.wp _ _ _ _ _
      refine seq ?_
      refine region ?_
      refine sv (yMove rfl) ?_
      refine sv (yGtr rfl rfl) ?_
      refine nil ?_
      show Code.wp _ _ _ _ _
      refine cond rfl (fun c51 => ?_) (fun c51 => ?_)
      ·
        simp only [Bool.and_eq_true, Bool.or_eq_true, Bool.and_eq_false_iff, Bool.or_eq_false_iff, decide_eq_true_eq, decide_eq_false_iff_not, Bool.not_eq_true, Bool.not_eq_false, Bool.not_not, Bool.not_eq_eq_eq_not, Bool.not_true, Bool.not_false, Bool.false_eq_true, Bool.true_eq_false, ne_eq, Decidable.not_not, not_false_eq_true, not_true_eq_false] at c51
        refine seq ?_
        refine region ?_
        refine sv (yAsg rfl) ?_
        refine sv (yAsg rfl) ?_
        refine nil ?_
        show Code.wp _ _ _ _ _
        have hfin : periodF t = (0, 3) := by rw [hI, hd, perL, if_pos c51]
        refine wp_ret (blockR (thenR (thenR (blockR (thenR ?_)))))
        exact retV (res2 rfl (eqI (by rw [hfin])) (eqI (by rw [hfin]))) hS.ext
      ·
        simp only [Bool.and_eq_true, Bool.or_eq_true, Bool.and_eq_false_iff, Bool.or_eq_false_iff, decide_eq_true_eq, decide_eq_false_iff_not, Bool.not_eq_true, Bool.not_eq_false, Bool.not_not, Bool.not_eq_eq_eq_not, Bool.not_true, Bool.not_false, Bool.false_eq_true, Bool.true_eq_false, ne_eq, Decidable.not_not, not_false_eq_true, not_true_eq_false] at c51
        refine skip ?_
        show Code.wp _ _ _ _ _
        refine region ?_
        refine sv (yMove h7) ?_
        refine sv (yAdd rfl rfl ⟨by omega, by omega⟩) ?_
        refine sv (yAsg rfl) ?_
        refine nil ?_
        exact ⟨_, _, rfl, ⟨k + 1, perS n c, h1, rfl, rfl, (hS.sub (.cons _ (List.Sublist.refl _))), (by omega), (⟨hpb.1, by omega⟩), (by rw [hI, hd, perL, if_neg c51]), rfl⟩, by omega⟩
    ·
      simp only [Bool.and_eq_true, Bool.or_eq_true, Bool.and_eq_false_iff, Bool.or_eq_false_iff, decide_eq_true_eq, decide_eq_false_iff_not, Bool.not_eq_true, Bool.not_eq_false, Bool.not_not, Bool.not_eq_eq_eq_not, Bool.not_true, Bool.not_false, Bool.false_eq_true, Bool.true_eq_false, ne_eq, Decidable.not_not, not_false_eq_true, not_true_eq_false] at c23
      obtain rfl : k = t.consts.length := by omega
      have hfin : periodF t = (n, 0) := by rw [hI, List.drop_length]; rfl
      refine exit ?_
      show Code.wp _ _ _ _ _
      refine seq ?_
      refine region ?_
      refine sv (yMove h6) ?_
      refine sv (yAsg rfl) ?_
      refine sv (yAsg rfl) ?_
      refine nil ?_
      show Code.wp _ _ _ _ _
      refine wp_ret ?_
      exact retV (res2 rfl (eqI (by rw [hfin])) (eqI (by rw [hfin]))) hS.ext
/-- barrage/barragelaw01.TideHighs -/
theorem w_TideHighs {t : Table} {cs : List Value} {a n : Int} {w0 : World} (ht : RTable w0 cs t) (hia : I64 a) (hin : I64 n) : CV Try.prog 17 #[.agg cs.toArray, .int .i64 a, .int .i64 n] w0 (.bool true) := by
  obtain ⟨cv, rfl, hmean, hsl⟩ := id ht
  obtain ⟨aa, cap, rfl, hcap, hmx, hel⟩ := id hsl
  refine enter Try.func17 rfl Try.ntmps17 rfl ?_
  have hS := St.start w0
  refine seq ?_
  refine region ?_
  refine sbox hS rfl rfl ?_; clear hS; intro b3 w hS
  refine sv (yAsg rfl) ?_
  refine nil ?_
  show Code.wp _ _ _ _ _
  refine seq ?_
  refine region ?_
  refine sv (yLdBA rfl Try.isAgg24 Try.sizeOf24 (hS.at _) rfl rfl) ?_
  refine sv (yMove rfl) ?_
  refine sv (yMove rfl) ?_
  refine scall Try.call46 (.cons rfl (.cons rfl (.cons rfl .nil))) (c_High (ht.ext hS.ext) hia hin) ?_
  rintro _ w ⟨sv1, rfl, hM⟩; replace hS := hS.call1 hM; clear hM
  refine sv (yMove rfl) ?_
  refine sv (yExt rfl rfl) ?_
  refine sv (yExt rfl rfl) ?_
  refine sv (yAsg rfl) ?_
  refine sv (yAsg rfl) ?_
  refine nil ?_
  show Code.wp _ _ _ _ _
  refine seq ?_
  refine region ?_
  refine sv (yLdBA rfl Try.isAgg24 Try.sizeOf24 (hS.at _) rfl rfl) ?_
  refine sv (yMove rfl) ?_
  refine sv (yMove rfl) ?_
  refine scall Try.call47 (.cons rfl (.cons rfl (.cons rfl .nil))) (c_rHigh (ht.ext hS.ext) hia hin) ?_
  rintro _ w ⟨sv2, rfl, hM⟩; replace hS := hS.call1 hM; clear hM
  refine sv (yMove rfl) ?_
  refine sv (yExt rfl rfl) ?_
  refine sv (yExt rfl rfl) ?_
  refine sv (yAsg rfl) ?_
  refine sv (yAsg rfl) ?_
  refine nil ?_
  show Code.wp _ _ _ _ _
  refine seq ?_
  refine seq ?_
  refine region ?_
  refine sv (yMove rfl) ?_
  refine sv (yMove rfl) ?_
  refine scall Try.call41 (.cons rfl (.cons rfl .nil)) (c_Ints (sl_ints (hS.row sv1) rfl highF_ok) (sl_ints (hS.row sv2) rfl highF_ok)) ?_
  rintro _ w ⟨rfl, hE⟩; replace hS := hS.step hE; clear hE
  refine sv (yNot rfl) ?_
  refine sv (yMove rfl) ?_
  refine sg rfl rfl rfl (fun g => (yMove rfl)) (fun v32 g32 => ?_)
  refine sg rfl rfl rfl (fun g => (yMove rfl)) (fun v33 g33 => ?_)
  refine sg rfl rfl rfl (fun g => (yNeq (g32.1 g) (g33.1 g))) (fun v34 g34 => ?_)
  refine sv (yOr rfl rfl (fun hB => (g34.1 hB))) ?_
  refine nil ?_
  show Code.wp _ _ _ _ _
  refine cond rfl (fun c35 => ?_) (fun c35 => ?_)
  ·
    exact absurd c35 (by simp)
  ·
    refine skip ?_
    show Code.wp _ _ _ _ _
    refine seq ?_
    refine region ?_
    refine sv (yLdBA rfl Try.isAgg24 Try.sizeOf24 (hS.at _) rfl rfl) ?_
    refine scall Try.call32 (.cons rfl .nil) (c_Period (ht.ext hS.ext)) ?_
    rintro _ w ⟨rfl, hE⟩; replace hS := hS.step hE; clear hE
    refine sv (yMove rfl) ?_
    refine sv (yExt rfl rfl) ?_
    refine sv (yExt rfl rfl) ?_
    refine sv (yAsg rfl) ?_
    refine sv (yAsg rfl) ?_
    refine nil ?_
    show Code.wp _ _ _ _ _
    refine seq ?_
    refine region ?_
    refine sv (yLdBA rfl Try.isAgg24 Try.sizeOf24 (hS.at _) rfl rfl) ?_
    refine scall Try.call48 (.cons rfl .nil) (c_rPeriod (ht.ext hS.ext)) ?_
    rintro _ w ⟨rfl, hE⟩; replace hS := hS.step hE; clear hE
    refine sv (yMove rfl) ?_
    refine sv (yExt rfl rfl) ?_
    refine sv (yExt rfl rfl) ?_
    refine sv (yAsg rfl) ?_
    refine sv (yAsg rfl) ?_
    refine nil ?_
    show Code.wp _ _ _ _ _
    refine seq ?_
    refine region ?_
    refine sv (yMove rfl) ?_
    refine sv (yMove rfl) ?_
    refine sv (yEql rfl rfl) ?_
    refine sv (yMove rfl) ?_
    refine sg rfl rfl rfl (fun g => (yMove rfl)) (fun v50 g50 => ?_)
    refine sg rfl rfl rfl (fun g => (yMove rfl)) (fun v51 g51 => ?_)
    refine sg rfl rfl rfl (fun g => (yEql (g50.1 g) (g51.1 g))) (fun v52 g52 => ?_)
    refine sv (yAnd rfl (fun hB => (g52.1 hB)) rfl) ?_
    refine sv (yMove rfl) ?_
    refine sgc hS rfl rfl rfl Try.call23 (fun g => .nil) (fun g => c_Awake) ?_; clear hS; intro v55 w hS g55
    refine sv (yAnd rfl (fun hB => (g55.1 hB)) rfl) ?_
    refine sv (yAsg rfl) ?_
    refine nil ?_
    show Code.wp _ _ _ _ _
    refine wp_ret ?_
    exact retV (res1 rfl (eqB (by simp))) hS.ext
end Go.Proofs.Ytpgmehignepidaa
/- part Wk18 -/
namespace Go.Proofs.Ytpgmehignepidaa
open Go Bx
set_option maxHeartbeats 8000000 in
/-- barrage/barragelaw01.TideHighest -/
theorem w_TideHighest {t : Table} {cs xs : List Value} {x : Int × Int} {dv : Value} {ds : List Int} {w0 : World} (ht : RTable w0 cs t) (hx2 : RI2 w0 xs x) (hds : Sl w0 1 RU8 dv ds) : CV Try.prog 16 #[.agg cs.toArray, .agg xs.toArray, dv] w0 (.bool true) := by
  obtain ⟨cv, rfl, hmean, hsl⟩ := id ht
  obtain ⟨aa, cap, rfl, hcap, hmx, hel⟩ := id hsl
  obtain ⟨a, n⟩ := x
  obtain ⟨rfl, hia, hin⟩ := hx2
  simp only [] at hia hin
  obtain ⟨ad, capd, rfl, hcapd, hmxd, held⟩ := id hds
  refine enter Try.func16 rfl Try.ntmps16 rfl ?_
  have hS := St.start w0
  refine seq ?_
  refine region ?_
  refine sbox hS rfl rfl ?_; clear hS; intro b3 w hS
  refine sbox hS rfl rfl ?_; clear hS; intro b4 w hS
  refine sv (yAsg rfl) ?_
  refine nil ?_
  show Code.wp _ _ _ _ _
  refine seq ?_
  refine region_draw mixed (by kernel_rfl) hS ?_
  refine qv (fun w hS => (yIxA rfl rfl Try.runUnderlying86 Try.sizeOf3 (by omega) (by omega))) ?_
  refine qv (fun w hS => (yLdB rfl Try.isAgg3 (hS.at _) rfl)) ?_
  refine qv (fun w hS => (yIxA rfl rfl Try.runUnderlying86 Try.sizeOf3 (by omega) (by omega))) ?_
  refine qv (fun w hS => (yLdB rfl Try.isAgg3 (hS.at _) rfl)) ?_
  refine qv (fun w hS => (yAsg rfl)) ?_
  refine qv (fun w hS => (yAsg rfl)) ?_
  clear hS; refine qnil (fun w hS => ?_)
  show Code.wp _ _ _ _ _
  refine seq ?_
  refine seq ?_
  refine region ?_
  refine sv (yMove rfl) ?_
  refine sv (yGtr rfl rfl) ?_
  refine nil ?_
  show Code.wp _ _ _ _ _
  refine cond rfl (fun c26 => ?_) (fun c26 => ?_)
  ·
    simp only [Bool.and_eq_true, Bool.or_eq_true, Bool.and_eq_false_iff, Bool.or_eq_false_iff, decide_eq_true_eq, decide_eq_false_iff_not, Bool.not_eq_true, Bool.not_eq_false, Bool.not_not, Bool.not_eq_eq_eq_not, Bool.not_true, Bool.not_false, Bool.false_eq_true, Bool.true_eq_false, ne_eq, Decidable.not_not, not_false_eq_true, not_true_eq_false] at c26
    refine seq ?_
    refine region ?_
    refine scall Try.call23 .nil c_Awake ?_
    rintro _ w ⟨rfl, hE⟩; replace hS := hS.step hE; clear hE
    refine sv (yAsg rfl) ?_
    refine nil ?_
    show Code.wp _ _ _ _ _
    refine wp_ret (thenR ?_)
    exact retV (res1 rfl rfl) hS.ext
  ·
    simp only [Bool.and_eq_true, Bool.or_eq_true, Bool.and_eq_false_iff, Bool.or_eq_false_iff, decide_eq_true_eq, decide_eq_false_iff_not, Bool.not_eq_true, Bool.not_eq_false, Bool.not_not, Bool.not_eq_eq_eq_not, Bool.not_true, Bool.not_false, Bool.false_eq_true, Bool.true_eq_false, ne_eq, Decidable.not_not, not_false_eq_true, not_true_eq_false] at c26
    refine skip ?_
    show Code.wp _ _ _ _ _
    refine seq ?_
    refine region ?_
    refine sv (yLdBA rfl Try.isAgg24 Try.sizeOf24 (hS.at _) rfl rfl) ?_
    refine sv (yMove rfl) ?_
    refine sv (yMove rfl) ?_
    refine scall Try.call46 (.cons rfl (.cons rfl (.cons rfl .nil))) (c_High (ht.ext hS.ext) hia hin) ?_
    rintro _ w ⟨sv1, rfl, hM⟩; replace hS := hS.call1 hM; clear hM; obtain ⟨ah, caph, rfl⟩ := row_shape (hS.row sv1)
    refine sv (yMove rfl) ?_
    refine sv (yExt rfl rfl) ?_
    refine sv (yExt rfl rfl) ?_
    refine sv (yAsg rfl) ?_
    refine sv (yAsg rfl) ?_
    refine nil ?_
    show Code.wp _ _ _ _ _
    refine seq ?_
    refine region ?_
    refine sv (yLdBA rfl Try.isAgg24 Try.sizeOf24 (hS.at _) rfl rfl) ?_
    refine sv (yMove rfl) ?_
    refine sv (yMove rfl) ?_
    refine scall Try.call34 (.cons rfl (.cons rfl (.cons rfl .nil))) (c_Levels (ht.ext hS.ext)) ?_
    rintro _ w ⟨sv2, rfl, hM⟩; replace hS := hS.call1 hM; clear hM; obtain ⟨al, capl, rfl⟩ := row_shape (hS.row sv2)
    refine sv (yMove rfl) ?_
    refine sv (yExt rfl rfl) ?_
    refine sv (yExt rfl rfl) ?_
    refine sv (yAsg rfl) ?_
    refine sv (yAsg rfl) ?_
    refine nil ?_
    show Code.wp _ _ _ _ _
    refine seq ?_
    refine seq ?_
    refine region ?_
    refine sv (yMove rfl) ?_
    refine sv (yNeq rfl rfl) ?_
    refine sv (yMove rfl) ?_
    refine sg rfl rfl rfl (fun g => (yMove rfl)) (fun v45 g45 => ?_)
    refine sg rfl rfl rfl (fun g => (yNeq (g45.1 g) rfl)) (fun v46 g46 => ?_)
    refine sv (yOr rfl rfl (fun hB => (g46.1 hB))) ?_
    refine sv (yMove rfl) ?_
    refine sg rfl rfl rfl (fun g => (yMove rfl)) (fun v49 g49 => ?_)
    refine sg rfl rfl rfl (fun g => (yLen (g49.1 g) Try.underlying61)) (fun v50 g50 => ?_)
    refine sg rfl rfl rfl (fun g => (yEql (g50.1 g) rfl)) (fun v51 g51 => ?_)
    refine sv (yOr rfl rfl (fun hB => (g51.1 hB))) ?_
    refine nil ?_
    show Code.wp _ _ _ _ _
    refine cond rfl (fun c52 => ?_) (fun c52 => ?_)
    ·
      simp only [Bool.and_eq_true, Bool.or_eq_true, Bool.and_eq_false_iff, Bool.or_eq_false_iff, decide_eq_true_eq, decide_eq_false_iff_not, Bool.not_eq_true, Bool.not_eq_false, Bool.not_not, Bool.not_eq_eq_eq_not, Bool.not_true, Bool.not_false, Bool.false_eq_true, Bool.true_eq_false, ne_eq, Decidable.not_not, not_false_eq_true, not_true_eq_false] at c52
      refine seq ?_
      refine region ?_
      refine sv (yMove rfl) ?_
      refine sv (yMove rfl) ?_
      refine sv (yEql rfl rfl) ?_
      refine sv (yMove rfl) ?_
      refine sg rfl rfl rfl (fun g => (yMove rfl)) (fun v57 g57 => ?_)
      refine sg rfl rfl rfl (fun g => (yLen (g57.1 g) Try.underlying44)) (fun v58 g58 => ?_)
      refine sg rfl rfl rfl (fun g => (yEql (g58.1 g) rfl)) (fun v59 g59 => ?_)
      refine sv (yAnd rfl (fun hB => (g59.1 hB)) rfl) ?_
      refine sv (yMove rfl) ?_
      refine sgc hS rfl rfl rfl Try.call23 (fun g => .nil) (fun g => c_Awake) ?_; clear hS; intro v62 w hS g62
      refine sv (yAnd rfl (fun hB => (g62.1 hB)) rfl) ?_
      refine sv (yAsg rfl) ?_
      refine nil ?_
      show Code.wp _ _ _ _ _
      have hnil : (highF t a n).length = 0 := by
        unfold highF
        by_cases hz : levelsE t a n = 0
        · rw [if_neg (fun h => h hz)]
          have h0 : (levelsF t a n).length = 0 := by
            rcases c52 with (h | h) | h
            · exact absurd hz h
            · exact absurd hz h
            · omega
          have := highsK_len (levelsF t a n) a (levelsF t a n).length
          omega
        · rw [if_pos hz]; rfl
      refine wp_ret (thenR ?_)
      exact retV (res1 rfl (eqB (by simp [hnil]))) hS.ext
    ·
      simp only [Bool.and_eq_true, Bool.or_eq_true, Bool.and_eq_false_iff, Bool.or_eq_false_iff, decide_eq_true_eq, decide_eq_false_iff_not, Bool.not_eq_true, Bool.not_eq_false, Bool.not_not, Bool.not_eq_eq_eq_not, Bool.not_true, Bool.not_false, Bool.false_eq_true, Bool.true_eq_false, ne_eq, Decidable.not_not, not_false_eq_true, not_true_eq_false] at c52
      obtain ⟨⟨hz, _⟩, hl0⟩ := c52
      obtain ⟨_, hz2, hz3⟩ := levelsE_zero hz
      have hsp := levelsF_spans (t := t) (a := a) (n := n)
      have hHe : highF t a n = highsK (levelsF t a n) a (levelsF t a n).length := by unfold highF; rw [if_neg (fun h => h hz)]
      have hlen : (levelsF t a n).length = n.toNat := by rw [levelsF_good hz, lvlsL_len]
      generalize highF t a n = H at *
      generalize levelsF t a n = l at *
      have hab := hz3 (by omega)
      have hHl := highsK_len l a l.length
      rw [← hHe] at hHl
      have hasc := highsK_asc l a l.length
      rw [← hHe] at hasc
      have hne : l ≠ [] := fun h => by rw [h] at hl0; exact hl0 rfl
      refine skip ?_
      show Code.wp _ _ _ _ _
      refine seq ?_
      refine region ?_
      refine sv (yAsg rfl) ?_
      refine nil ?_
      show Code.wp _ _ _ _ _
      refine seq ?_
      refine region ?_
      refine sv (yAsg rfl) ?_
      refine nil ?_
      show Code.wp _ _ _ _ _
      refine seq ?_
      refine seq ?_
      refine region ?_
      refine sv (yAsg rfl) ?_
      refine nil ?_
      show Code.wp _ _ _ _ _
      refine block ?_
      refine loop (fun f w zz => ∃ (k most : Nat) (v : Value) (lv : List Int), f 2 = .slice ad ds.length capd ∧ f 7 = .int .i64 a ∧ f 9 = .slice ah H.length caph ∧ f 11 = .slice al l.length capl ∧ f 13 = v ∧ f 14 = .int .i64 (most : Int) ∧ f 15 = .int .i64 (k : Int) ∧ StX [] w0 w [rowI v 3 1 (k) (lv.flatMap encI), rowI (.slice al l.length capl) 38 2 l.length (l.flatMap spanC), rowI (.slice ah H.length caph) 3 1 H.length (H.flatMap encI)] ∧ (k ≤ l.length) ∧ (Most l lv k most) ∧ zz = l.length - k) _ ⟨_, rfl, 0, 0, _, [], rfl, rfl, rfl, rfl, rfl, rfl, rfl, ((hS.nilrow 3 1).sub (.cons_cons _ (.cons_cons _ (.cons_cons _ (List.nil_sublist _))))), (Nat.zero_le _), (⟨rfl, fun i hi => absurd hi (Nat.not_lt_zero i), .inl ⟨rfl, rfl⟩, fun i hi => absurd hi (Nat.not_lt_zero i)⟩), rfl⟩ ?_
      clear hS
      rintro f w _ ⟨k, most, v, lv, h2, h7, h9, h11, h13, h14, h15, hS, hk, hM, rfl⟩
      refine seq ?_
      refine seq ?_
      refine region ?_
      refine sv (yMove h15) ?_
      refine sv (yMove h11) ?_
      refine sv (yLen rfl Try.underlying61) ?_
      refine sv (yLss rfl rfl) ?_
      refine nil ?_
      show Code.wp _ _ _ _ _
      refine cond rfl (fun c67 => ?_) (fun c67 => ?_)
      ·
        simp only [Bool.and_eq_true, Bool.or_eq_true, Bool.and_eq_false_iff, Bool.or_eq_false_iff, decide_eq_true_eq, decide_eq_false_iff_not, Bool.not_eq_true, Bool.not_eq_false, Bool.not_not, Bool.not_eq_eq_eq_not, Bool.not_true, Bool.not_false, Bool.false_eq_true, Bool.true_eq_false, ne_eq, Decidable.not_not, not_false_eq_true, not_true_eq_false] at c67
        obtain ⟨s, hx, hd⟩ := drop_of (l := l) (k := k) (by omega)
        obtain ⟨g, hag, hcg⟩ := row_get (hS.row (.slice al l.length capl)) (by omega)
        have hcs := flat_cells spanC_len hcg hx
        have hso := hsp s (List.mem_of_getElem? hx)
        refine skip ?_
        show Code.wp _ _ _ _ _
        refine seq ?_
        refine block ?_
        refine seq ?_
        refine region ?_
        refine sv (yMove h11) ?_
        refine sv (yMove h15) ?_
        refine sv (yIxa rfl hag rfl Try.runUnderlying61 Try.sizeOf38 (by omega) (by omega)) ?_
        refine sv (fa38_0 rfl) ?_
        refine sv (yLd rfl Try.isAgg3 ((flat_cells spanC_len (row_at (hS.row (.slice al l.length capl)) hag (by omega)) hx).one)) ?_
        refine sv (yAsg rfl) ?_
        refine nil ?_
        show Code.wp _ _ _ _ _
        refine seqJ (n := 173) (fun f w => ∃ (x : Int), f 2 = .slice ad ds.length capd ∧ f 7 = .int .i64 a ∧ f 9 = .slice ah H.length caph ∧ f 11 = .slice al l.length capl ∧ f 13 = v ∧ f 14 = .int .i64 (most : Int) ∧ f 15 = .int .i64 (k : Int) ∧ f 16 = .int .i64 x ∧ StX [] w0 w [rowI v 3 1 (k) (lv.flatMap encI), rowI (.slice al l.length capl) 38 2 l.length (l.flatMap spanC), rowI (.slice ah H.length caph) 3 1 H.length (H.flatMap encI)] ∧ (s.lo ≤ x ∧ x ≤ s.hi) ∧ True) ?_ ?_
        ·
          refine seq ?_
          refine region ?_
          refine sv (yMove h15) ?_
          refine sv (yMove h2) ?_
          refine sv (yLen rfl Try.underlying51) ?_
          refine sv (yLss rfl rfl) ?_
          refine nil ?_
          show Code.wp _ _ _ _ _
          refine cond rfl (fun c78 => ?_) (fun c78 => ?_)
          ·
            simp only [Bool.and_eq_true, Bool.or_eq_true, Bool.and_eq_false_iff, Bool.or_eq_false_iff, decide_eq_true_eq, decide_eq_false_iff_not, Bool.not_eq_true, Bool.not_eq_false, Bool.not_not, Bool.not_eq_eq_eq_not, Bool.not_true, Bool.not_false, Bool.false_eq_true, Bool.true_eq_false, ne_eq, Decidable.not_not, not_false_eq_true, not_true_eq_false] at c78
            obtain ⟨bz, oz, csz, haz, hlenz, hcsz, hRz⟩ := held k (by omega)
            obtain ⟨rfl, he1, he2⟩ := hRz
            generalize ds[k] = sh at hcsz he1 he2
            have hshb : Bd sh 0 255 := ⟨he1, he2⟩
            obtain ⟨hso1, hso2, hso3⟩ := id hso
            have hm1 : 0 ≤ (s.hi - s.lo) * sh := Int.mul_nonneg (by omega) he1
            have hm2 : (s.hi - s.lo) * sh ≤ (s.hi - s.lo) * 255 := Int.mul_le_mul_of_nonneg_left he2 (by omega)
            have hsb := share_bd hso1 hshb
            refine region_draw mixed (by kernel_rfl) hS ?_
            refine qv (fun w hS => (yMove rfl)) ?_
            refine qv (fun w hS => (yMove h11)) ?_
            refine qv (fun w hS => (yMove h15)) ?_
            refine qv (fun w hS => (yIxa rfl hag rfl Try.runUnderlying61 Try.sizeOf38 (by omega) (by omega))) ?_
            refine qv (fun w hS => (fa38_1 rfl)) ?_
            refine qv (fun w hS => (yLd rfl Try.isAgg3 ((flat_cells spanC_len (row_at (hS.row (.slice al l.length capl)) hag (by omega)) hx).at (j := 1) rfl))) ?_
            refine qv (fun w hS => (yMove h11)) ?_
            refine qv (fun w hS => (yMove h15)) ?_
            refine qv (fun w hS => (yIxa rfl hag rfl Try.runUnderlying61 Try.sizeOf38 (by omega) (by omega))) ?_
            refine qv (fun w hS => (fa38_0 rfl)) ?_
            refine qv (fun w hS => (yLd rfl Try.isAgg3 ((flat_cells spanC_len (row_at (hS.row (.slice al l.length capl)) hag (by omega)) hx).one))) ?_
            refine qv (fun w hS => (ySub rfl rfl ⟨by omega, by omega⟩)) ?_
            refine qv (fun w hS => (yMove h2)) ?_
            refine qv (fun w hS => (yMove h15)) ?_
            refine qv (fun w hS => (yIxa rfl haz rfl Try.runUnderlying51 Try.sizeOf5 (by omega) (by omega))) ?_
            refine qv (fun w hS => (yLd rfl Try.isAgg5 ((hcsz.ext hS.ext).one))) ?_
            refine qv (fun w hS => (yToI rfl Try.underlying5 Try.underlying3 ⟨by omega, by omega⟩)) ?_
            refine qv (fun w hS => (yMul rfl rfl ⟨by omega, by omega⟩)) ?_
            refine qv (fun w hS => (yQuoP rfl rfl ⟨by omega, by omega⟩ (by omega))) ?_
            refine qv (fun w hS => (yAdd rfl rfl ⟨by omega, by omega⟩)) ?_
            refine qv (fun w hS => (yAsg rfl)) ?_
            clear hS; refine qnil (fun w hS => ?_)
            exact ⟨_, rfl, _, h2, h7, h9, h11, h13, h14, h15, rfl, hS, (share_bd hso.1 hshb), trivial⟩
          ·
            simp only [Bool.and_eq_true, Bool.or_eq_true, Bool.and_eq_false_iff, Bool.or_eq_false_iff, decide_eq_true_eq, decide_eq_false_iff_not, Bool.not_eq_true, Bool.not_eq_false, Bool.not_not, Bool.not_eq_eq_eq_not, Bool.not_true, Bool.not_false, Bool.false_eq_true, Bool.true_eq_false, ne_eq, Decidable.not_not, not_false_eq_true, not_true_eq_false] at c78
            refine skip ?_
            exact ⟨_, rfl, _, h2, h7, h9, h11, h13, h14, h15, rfl, hS, (⟨Int.le_refl _, hso.1⟩), trivial⟩
        ·
          clear hS; rintro f w ⟨x, h2, h7, h9, h11, h13, h14, h15, h16, hS, hxb, -⟩
          refine seq ?_
          refine region ?_
          refine sv (yMove h13) ?_
          refine sv (yMove h16) ?_
          refine sbslice hS Try.underlying44 Try.sizeOf3 rfl Try.zeroValue3 rfl (.cons rfl rfl .nil) rfl ?_; clear hS; intro b101 w hS
          refine sapp (bytes := 8) (size := 1) (v := v) (m := 1) hS rfl rfl Try.underlying44 ti3 rfl rfl rfl rfl (by decide) (blk_cells (hS.at _)) rfl rfl (by omega) (by omega) ?_; clear hS; intro v102 w hS
          refine sv (yAsg rfl) ?_
          refine nil ?_
          show Code.wp _ _ _ _ _
          refine seq ?_
          refine region ?_
          obtain ⟨gr, capr, rfl, _, _, _⟩ := row_some (hS.row v102) (Nat.succ_pos _)
          have hmk : most < k + 1 := by rcases hM.at_ with ⟨_, h⟩ | h <;> omega
          obtain ⟨y, hy⟩ : ∃ y, (lv ++ [x])[most]? = some y := ⟨_, List.getElem?_eq_getElem (by simp [hM.len]; omega)⟩
          have hyd := getD_hit (d := (0 : Int)) hy
          refine sv (yMove h16) ?_
          refine sv (yMove rfl) ?_
          refine sv (yMove h14) ?_
          refine sv (yIxa rfl rfl rfl Try.runUnderlying44 Try.sizeOf3 (by omega) (by omega)) ?_
          refine sv (yLd rfl Try.isAgg3 ((flat_cells encI_len (row_at (show w.ownsRow 0 3 1 (.slice (some ⟨gr, 0, none⟩) (k + 1) capr) (k + 1) ((lv ++ [x]).flatMap encI) from by rw [List.flatMap_append]; exact hS.row (.slice (some ⟨gr, 0, none⟩) (k + 1) capr)) rfl (by omega)) hy).one)) ?_
          refine sv (yGtr rfl rfl) ?_
          refine nil ?_
          show Code.wp _ _ _ _ _
          refine cond rfl (fun c108 => ?_) (fun c108 => ?_)
          ·
            simp only [Bool.and_eq_true, Bool.or_eq_true, Bool.and_eq_false_iff, Bool.or_eq_false_iff, decide_eq_true_eq, decide_eq_false_iff_not, Bool.not_eq_true, Bool.not_eq_false, Bool.not_not, Bool.not_eq_eq_eq_not, Bool.not_true, Bool.not_false, Bool.false_eq_true, Bool.true_eq_false, ne_eq, Decidable.not_not, not_false_eq_true, not_true_eq_false] at c108
            rw [← hyd] at c108
            refine region ?_
            refine sv (yMove h15) ?_
            refine sv (yAsg rfl) ?_
            refine nil ?_
            show Code.wp _ _ _ _ _
            refine region ?_
            refine sv (yMove h15) ?_
            refine sv (yAdd rfl rfl ⟨by omega, by omega⟩) ?_
            refine sv (yAsg rfl) ?_
            refine nil ?_
            exact ⟨_, _, rfl, ⟨k + 1, k, _, lv ++ [x], h2, h7, h9, h11, rfl, rfl, rfl, (by rw [List.flatMap_append]; exact hS.sub (.cons _ (List.Sublist.refl _))), (by omega), (hM.here hx hxb (by omega)), rfl⟩, by omega⟩
          ·
            simp only [Bool.and_eq_true, Bool.or_eq_true, Bool.and_eq_false_iff, Bool.or_eq_false_iff, decide_eq_true_eq, decide_eq_false_iff_not, Bool.not_eq_true, Bool.not_eq_false, Bool.not_not, Bool.not_eq_eq_eq_not, Bool.not_true, Bool.not_false, Bool.false_eq_true, Bool.true_eq_false, ne_eq, Decidable.not_not, not_false_eq_true, not_true_eq_false] at c108
            rw [← hyd] at c108
            refine skip ?_
            show Code.wp _ _ _ _ _
            refine region ?_
            refine sv (yMove h15) ?_
            refine sv (yAdd rfl rfl ⟨by omega, by omega⟩) ?_
            refine sv (yAsg rfl) ?_
            refine nil ?_
            exact ⟨_, _, rfl, ⟨k + 1, most, _, lv ++ [x], h2, h7, h9, h11, rfl, h14, rfl, (by rw [List.flatMap_append]; exact hS.sub (.cons _ (List.Sublist.refl _))), (by omega), (hM.stay hx hxb (by omega)), rfl⟩, by omega⟩
      ·
        simp only [Bool.and_eq_true, Bool.or_eq_true, Bool.and_eq_false_iff, Bool.or_eq_false_iff, decide_eq_true_eq, decide_eq_false_iff_not, Bool.not_eq_true, Bool.not_eq_false, Bool.not_not, Bool.not_eq_eq_eq_not, Bool.not_true, Bool.not_false, Bool.false_eq_true, Bool.true_eq_false, ne_eq, Decidable.not_not, not_false_eq_true, not_true_eq_false] at c67
        obtain rfl : k = l.length := by omega
        obtain ⟨hml, hcm⟩ := hM.can hne
        have hmH : a + (most : Int) ∈ H := by rw [hHe]; exact highsK_has hml hcm
        refine exit ?_
        show Code.wp _ _ _ _ _
        refine seq ?_
        refine region ?_
        refine sv (yAsg rfl) ?_
        refine nil ?_
        show Code.wp _ _ _ _ _
        refine seq ?_
        refine seq ?_
        refine region ?_
        refine sv (yAsg rfl) ?_
        refine nil ?_
        show Code.wp _ _ _ _ _
        refine block ?_
        refine loop (fun f w zz => ∃ (i : Nat), f 7 = .int .i64 a ∧ f 9 = .slice ah H.length caph ∧ f 11 = .slice al l.length capl ∧ f 14 = .int .i64 (most : Int) ∧ f 17 = .bool (fndB H a most i) ∧ f 18 = .int .i64 (i : Int) ∧ StX [] w0 w [rowI (.slice al l.length capl) 38 2 l.length (l.flatMap spanC), rowI (.slice ah H.length caph) 3 1 H.length (H.flatMap encI)] ∧ (i ≤ H.length) ∧ zz = H.length - i) _ ⟨_, rfl, 0, h7, h9, h11, h14, rfl, rfl, (hS.sub (.cons _ (List.Sublist.refl _))), (Nat.zero_le _), rfl⟩ ?_
        clear hS
        rintro f w _ ⟨i, h7, h9, h11, h14, h17, h18, hS, hi, rfl⟩
        refine seq ?_
        refine seq ?_
        refine region ?_
        refine sv (yMove h18) ?_
        refine sv (yMove h9) ?_
        refine sv (yLen rfl Try.underlying44) ?_
        refine sv (yLss rfl rfl) ?_
        refine nil ?_
        show Code.wp _ _ _ _ _
        refine cond rfl (fun c113 => ?_) (fun c113 => ?_)
        ·
          simp only [Bool.and_eq_true, Bool.or_eq_true, Bool.and_eq_false_iff, Bool.or_eq_false_iff, decide_eq_true_eq, decide_eq_false_iff_not, Bool.not_eq_true, Bool.not_eq_false, Bool.not_not, Bool.not_eq_eq_eq_not, Bool.not_true, Bool.not_false, Bool.false_eq_true, Bool.true_eq_false, ne_eq, Decidable.not_not, not_false_eq_true, not_true_eq_false] at c113
          obtain ⟨y, hy, _⟩ := drop_of (l := H) (k := i) (by omega)
          obtain ⟨gh, hah, hch⟩ := row_get (hS.row (.slice ah H.length caph)) (by omega)
          obtain ⟨c, rfl, hcl, hcc⟩ := highsK_mem y (by rw [← hHe]; exact List.mem_of_getElem? hy)
          obtain ⟨s, hx, hd⟩ := drop_of (l := l) (k := c) (by omega)
          obtain ⟨g, hag, hcg⟩ := row_get (hS.row (.slice al l.length capl)) (by omega)
          have hcs := flat_cells spanC_len hcg hx
          have hso := hsp s (List.mem_of_getElem? hx)
          obtain ⟨z, hyz⟩ : ∃ z, 0 < i → H[i - 1]? = some z := by
            by_cases h0 : 0 < i
            · exact ⟨H[i - 1]'(by omega), fun _ => List.getElem?_eq_getElem _⟩
            · exact ⟨0, fun h => absurd h h0⟩
          have hzy : 0 < i → z < a + (c : Int) := fun h => asc_step hasc h (hyz h) hy
          refine skip ?_
          show Code.wp _ _ _ _ _
          refine seq ?_
          refine block ?_
          refine seq ?_
          refine region ?_
          refine sv (yMove h9) ?_
          refine sv (yMove h18) ?_
          refine sv (yIxa rfl hah rfl Try.runUnderlying44 Try.sizeOf3 (by omega) (by omega)) ?_
          refine sv (yLd rfl Try.isAgg3 ((flat_cells encI_len (row_at (hS.row (.slice ah H.length caph)) hah (by omega)) hy).one)) ?_
          refine sv (yMove h7) ?_
          refine sv (Y.to (ySub rfl rfl ⟨by omega, by omega⟩) (show Value.int .i64 (a + (c : Int) - a) = .int .i64 (c : Int) by congr 1; omega)) ?_
          refine sv (yAsg rfl) ?_
          refine nil ?_
          show Code.wp _ _ _ _ _
          refine seq ?_
          refine seq ?_
          refine region_draw mixed (by kernel_rfl) hS ?_
          refine qv (fun w hS => (yMove rfl)) ?_
          refine qv (fun w hS => (yLss rfl rfl)) ?_
          refine qv (fun w hS => (yMove rfl)) ?_
          refine qg rfl rfl rfl (fun g w hS => (yMove rfl)) (fun v125 g125 => ?_)
          refine qg rfl rfl rfl (fun g w hS => (yMove h11)) (fun v126 g126 => ?_)
          refine qg rfl rfl rfl (fun g w hS => (yLen (g126.1 g) Try.underlying61)) (fun v127 g127 => ?_)
          refine qg rfl rfl rfl (fun g w hS => (yGeq (g125.1 g) (g127.1 g))) (fun v128 g128 => ?_)
          refine qv (fun w hS => (yOr rfl rfl (fun hB => (g128.1 hB)))) ?_
          refine qv (fun w hS => (yMove rfl)) ?_
          refine qg rfl rfl rfl (fun g w hS => (yMove h18)) (fun v131 g131 => ?_)
          refine qg rfl rfl rfl (fun g w hS => (yGtr (g131.1 g) rfl)) (fun v132 g132 => ?_)
          refine qg rfl rfl rfl (fun g w hS => (yMove (g132.1 g))) (fun v133 g133 => ?_)
          refine qgg rfl rfl g133 (fun g w hS => (yMove h9)) (fun v134 g134 => ?_)
          refine qgg rfl rfl g133 (fun g w hS => (yMove h18)) (fun v135 g135 => ?_)
          refine qgg rfl rfl g133 (fun g w hS => (yIxa (g134.1 g) hah (g135.1 g) Try.runUnderlying44 Try.sizeOf3 (by omega) (by omega))) (fun v136 g136 => ?_)
          refine qgg rfl rfl g133 (fun g w hS => (yLd (g136.1 g) Try.isAgg3 ((flat_cells encI_len (row_at (hS.row (.slice ah H.length caph)) hah (by omega)) hy).one))) (fun v137 g137 => ?_)
          refine qgg rfl rfl g133 (fun g w hS => (yMove h9)) (fun v138 g138 => ?_)
          refine qgg rfl rfl g133 (fun g w hS => (yMove h18)) (fun v139 g139 => ?_)
          refine qgg rfl rfl g133 (fun g w hS => (Y.to (ySub (g139.1 g) rfl (by have := of_decide_eq_true g.2; exact ⟨by omega, by omega⟩)) (show Value.int .i64 ((i : Int) - 1) = .int .i64 ((i - 1 : Nat) : Int) by have := of_decide_eq_true g.2; congr 1; omega))) (fun v140 g140 => ?_)
          refine qgg rfl rfl g133 (fun g w hS => (yIxa (g138.1 g) hah (g140.1 g) Try.runUnderlying44 Try.sizeOf3 (by omega) (by omega))) (fun v141 g141 => ?_)
          refine qgg rfl rfl g133 (fun g w hS => (yLd (g141.1 g) Try.isAgg3 ((flat_cells encI_len (row_at (hS.row (.slice ah H.length caph)) hah (by omega)) (hyz (by have := of_decide_eq_true g.2; omega))).one))) (fun v142 g142 => ?_)
          refine qgg rfl rfl g133 (fun g w hS => (yLeq (g137.1 g) (g142.1 g))) (fun v143 g143 => ?_)
          refine qg rfl rfl rfl (fun g w hS => (yAnd (g133.1 g) (fun hB => (g143.1 ⟨g, hB⟩)) rfl)) (fun v144 g144 => ?_)
          refine qv (fun w hS => (yOr rfl rfl (fun hB => (g144.1 hB)))) ?_
          clear hS; refine qnil (fun w hS => ?_)
          show Code.wp _ _ _ _ _
          refine cond rfl (fun c145 => ?_) (fun c145 => ?_)
          ·
            exfalso
            simp only [Bool.and_eq_true, Bool.or_eq_true, Bool.and_eq_false_iff, Bool.or_eq_false_iff, decide_eq_true_eq, decide_eq_false_iff_not, Bool.not_eq_true, Bool.not_eq_false, Bool.not_not, Bool.not_eq_eq_eq_not, Bool.not_true, Bool.not_false, Bool.false_eq_true, Bool.true_eq_false, ne_eq, Decidable.not_not, not_false_eq_true, not_true_eq_false] at c145
            omega
          ·
            refine skip ?_
            show Code.wp _ _ _ _ _
            refine seq ?_
            refine region ?_
            refine sv (yMove h17) ?_
            refine sv (yMove rfl) ?_
            refine sg rfl rfl rfl (fun g => (yMove rfl)) (fun v148 g148 => ?_)
            refine sg rfl rfl rfl (fun g => (yMove h14)) (fun v149 g149 => ?_)
            refine sg rfl rfl rfl (fun g => (yEql (g148.1 g) (g149.1 g))) (fun v150 g150 => ?_)
            refine sv (yOr rfl rfl (fun hB => (g150.1 hB))) ?_
            refine sv (yAsg rfl) ?_
            refine nil ?_
            show Code.wp _ _ _ _ _
            refine seq ?_
            refine region ?_
            refine sv (yAsg rfl) ?_
            refine nil ?_
            show Code.wp _ _ _ _ _
            refine block ?_
            refine loop (fun f w zz => ∃ (j : Nat), f 7 = .int .i64 a ∧ f 9 = .slice ah H.length caph ∧ f 11 = .slice al l.length capl ∧ f 14 = .int .i64 (most : Int) ∧ f 17 = .bool (fndB H a most (i + 1)) ∧ f 18 = .int .i64 (i : Int) ∧ f 19 = .int .i64 (c : Int) ∧ f 20 = .int .i64 (j : Int) ∧ StX [] w0 w [rowI (.slice al l.length capl) 38 2 l.length (l.flatMap spanC), rowI (.slice ah H.length caph) 3 1 H.length (H.flatMap encI)] ∧ (j ≤ l.length) ∧ zz = l.length - j) _ ⟨_, rfl, 0, h7, h9, h11, h14, (by rw [fndB_succ hy, show a + (c : Int) - a = (c : Int) by omega]; exact rfl), h18, rfl, rfl, hS, (Nat.zero_le _), rfl⟩ ?_
            clear hS
            rintro f w _ ⟨j, h7, h9, h11, h14, h17, h18, h19, h20, hS, hj, rfl⟩
            refine seq ?_
            refine seq ?_
            refine region ?_
            refine sv (yMove h20) ?_
            refine sv (yMove h11) ?_
            refine sv (yLen rfl Try.underlying61) ?_
            refine sv (yLss rfl rfl) ?_
            refine nil ?_
            show Code.wp _ _ _ _ _
            refine cond rfl (fun c155 => ?_) (fun c155 => ?_)
            ·
              simp only [Bool.and_eq_true, Bool.or_eq_true, Bool.and_eq_false_iff, Bool.or_eq_false_iff, decide_eq_true_eq, decide_eq_false_iff_not, Bool.not_eq_true, Bool.not_eq_false, Bool.not_not, Bool.not_eq_eq_eq_not, Bool.not_true, Bool.not_false, Bool.false_eq_true, Bool.true_eq_false, ne_eq, Decidable.not_not, not_false_eq_true, not_true_eq_false] at c155
              obtain ⟨u, hxq, hdq⟩ := drop_of (l := l) (k := j) (by omega)
              obtain ⟨gq, hagq, hcgq⟩ := row_get (hS.row (.slice al l.length capl)) (by omega)
              have hcsq := flat_cells spanC_len hcgq hxq
              have hsoq := hsp u (List.mem_of_getElem? hxq)
              refine skip ?_
              show Code.wp _ _ _ _ _
              refine seq ?_
              refine block ?_
              refine seq ?_
              refine region_draw mixed (by kernel_rfl) hS ?_
              refine qv (fun w hS => (yMove h11)) ?_
              refine qv (fun w hS => (yMove h20)) ?_
              refine qv (fun w hS => (yIxa rfl hagq rfl Try.runUnderlying61 Try.sizeOf38 (by omega) (by omega))) ?_
              refine qv (fun w hS => (fa38_0 rfl)) ?_
              refine qv (fun w hS => (yLd rfl Try.isAgg3 ((flat_cells spanC_len (row_at (hS.row (.slice al l.length capl)) hagq (by omega)) hxq).one))) ?_
              refine qv (fun w hS => (yMove h11)) ?_
              refine qv (fun w hS => (yMove h19)) ?_
              refine qv (fun w hS => (yIxa rfl hag rfl Try.runUnderlying61 Try.sizeOf38 (by omega) (by omega))) ?_
              refine qv (fun w hS => (fa38_1 rfl)) ?_
              refine qv (fun w hS => (yLd rfl Try.isAgg3 ((flat_cells spanC_len (row_at (hS.row (.slice al l.length capl)) hag (by omega)) hx).at (j := 1) rfl))) ?_
              refine qv (fun w hS => (yGtr rfl rfl)) ?_
              clear hS; refine qnil (fun w hS => ?_)
              show Code.wp _ _ _ _ _
              refine cond rfl (fun c168 => ?_) (fun c168 => ?_)
              ·
                simp only [Bool.and_eq_true, Bool.or_eq_true, Bool.and_eq_false_iff, Bool.or_eq_false_iff, decide_eq_true_eq, decide_eq_false_iff_not, Bool.not_eq_true, Bool.not_eq_false, Bool.not_not, Bool.not_eq_eq_eq_not, Bool.not_true, Bool.not_false, Bool.false_eq_true, Bool.true_eq_false, ne_eq, Decidable.not_not, not_false_eq_true, not_true_eq_false] at c168
                exfalso
                have := List.all_eq_true.1 hcc u (List.mem_of_getElem? hxq)
                rw [decide_eq_true_eq, getD_hit hx] at this
                omega
              ·
                simp only [Bool.and_eq_true, Bool.or_eq_true, Bool.and_eq_false_iff, Bool.or_eq_false_iff, decide_eq_true_eq, decide_eq_false_iff_not, Bool.not_eq_true, Bool.not_eq_false, Bool.not_not, Bool.not_eq_eq_eq_not, Bool.not_true, Bool.not_false, Bool.false_eq_true, Bool.true_eq_false, ne_eq, Decidable.not_not, not_false_eq_true, not_true_eq_false] at c168
                refine skip ?_
                show Code.wp _ _ _ _ _
                refine region ?_
                refine sv (yMove h20) ?_
                refine sv (yAdd rfl rfl ⟨by omega, by omega⟩) ?_
                refine sv (yAsg rfl) ?_
                refine nil ?_
                exact ⟨_, _, rfl, ⟨j + 1, h7, h9, h11, h14, h17, h18, h19, rfl, hS, (by omega), rfl⟩, by omega⟩
            ·
              simp only [Bool.and_eq_true, Bool.or_eq_true, Bool.and_eq_false_iff, Bool.or_eq_false_iff, decide_eq_true_eq, decide_eq_false_iff_not, Bool.not_eq_true, Bool.not_eq_false, Bool.not_not, Bool.not_eq_eq_eq_not, Bool.not_true, Bool.not_false, Bool.false_eq_true, Bool.true_eq_false, ne_eq, Decidable.not_not, not_false_eq_true, not_true_eq_false] at c155
              refine exit ?_
              show Code.wp _ _ _ _ _
              refine region ?_
              refine sv (yMove h18) ?_
              refine sv (yAdd rfl rfl ⟨by omega, by omega⟩) ?_
              refine sv (yAsg rfl) ?_
              refine nil ?_
              exact ⟨_, _, rfl, ⟨i + 1, h7, h9, h11, h14, h17, rfl, hS, (by omega), rfl⟩, by omega⟩
        ·
          simp only [Bool.and_eq_true, Bool.or_eq_true, Bool.and_eq_false_iff, Bool.or_eq_false_iff, decide_eq_true_eq, decide_eq_false_iff_not, Bool.not_eq_true, Bool.not_eq_false, Bool.not_not, Bool.not_eq_eq_eq_not, Bool.not_true, Bool.not_false, Bool.false_eq_true, Bool.true_eq_false, ne_eq, Decidable.not_not, not_false_eq_true, not_true_eq_false] at c113
          obtain rfl : i = H.length := by omega
          have hfin : fndB H a most H.length = true := by
            unfold fndB
            rw [List.take_length, List.any_eq_true]
            exact ⟨_, hmH, by rw [decide_eq_true_eq]; omega⟩
          refine exit ?_
          show Code.wp _ _ _ _ _
          refine seq ?_
          refine region ?_
          refine sv (yMove h17) ?_
          refine sv (yMove rfl) ?_
          refine sgc hS rfl rfl rfl Try.call23 (fun g => .nil) (fun g => c_Awake) ?_; clear hS; intro v171 w hS g171
          refine sv (yAnd rfl (fun hB => (g171.1 hB)) rfl) ?_
          refine sv (yAsg rfl) ?_
          refine nil ?_
          show Code.wp _ _ _ _ _
          refine wp_ret ?_
          exact retV (res1 rfl (eqB (by rw [hfin]; simp))) hS.ext
end Go.Proofs.Ytpgmehignepidaa
/- part Wk19 -/
namespace Go.Proofs.Ytpgmehignepidaa
open Go Bx
set_option maxHeartbeats 8000000 in
/-- barrage/barragelaw01.made -/
theorem c_made {g : Gauge} {cs xs : List Value} {x : Truth} {w0 : World} (hg : RGauge w0 cs g) (hx : RTruth w0 xs x) : CE Try.prog 31 #[.agg cs.toArray, .agg xs.toArray] w0 (fun v w' => (v = .tuple #[.slice none 0 0, .agg cs.toArray, .bool false] ∧ Ext w0 w') ∨ ∃ lvv rv K, v = .tuple #[lvv, .agg (cs.set 4 rv).toArray, .bool true] ∧ TruthOk x ∧ K ≤ 60 ∧ (∀ i, i < K → atS x.gaps i < x.moves.length + 1) ∧ St w0 w' [rowI rv 103 2 K ((mkRs g x K).flatMap readC), rowI lvv 3 1 (x.moves.length + 1) ((lvsK g.rate x.level x.moves x.moves.length).flatMap encI)]) := by
  obtain ⟨dv, rv, rfl, hnm, hge, hgr, hsd, hsr⟩ := id hg
  obtain ⟨a, cap, rfl, hcap, hmx, hel⟩ := id hsd
  obtain ⟨a2, cap2, rfl, hcap2, hmx2, hel2⟩ := id hsr
  obtain ⟨mv, gv, sv, ev, rfl, hxs, hxl, hmv, hgv, hsv, hev⟩ := id hx
  obtain ⟨am, capm, rfl, hcapm, hmxm, helm⟩ := id hmv
  obtain ⟨ag, capg, rfl, hcapg, hmxg, helg⟩ := id hgv
  obtain ⟨ah, caph, rfl, hcaph, hmxh, helh⟩ := id hsv
  obtain ⟨ae, cape, rfl, hcape, hmxe, hele⟩ := id hev
  refine enter Try.func31 rfl Try.ntmps31 rfl ?_
  have hS := St.start w0
  refine seq ?_
  refine region ?_
  refine sbox hS rfl rfl ?_; clear hS; intro b2 w hS
  refine sbox hS rfl rfl ?_; clear hS; intro b3 w hS
  refine sv (yAsg rfl) ?_
  refine salloc hS Try.zeroValue34 rfl ?_; clear hS; intro b5 w hS
  refine sv (yAsg rfl) ?_
  refine nil ?_
  show Code.wp _ _ _ _ _
  refine seq ?_
  refine seq ?_
  refine region ?_
  refine sv (fa53_0 rfl) ?_
  refine sv (yLdB rfl Try.isAgg3 (hS.at _) rfl) ?_
  refine sv (yLss rfl rfl) ?_
  refine sv (yMove rfl) ?_
  refine sg rfl rfl rfl (fun g => (fa53_0 rfl)) (fun v20 g20 => ?_)
  refine sg rfl rfl rfl (fun g => (yLdB (g20.1 g) Try.isAgg3 (hS.at _) rfl)) (fun v21 g21 => ?_)
  refine sg rfl rfl rfl (fun g => (yGtr (g21.1 g) rfl)) (fun v22 g22 => ?_)
  refine sv (yOr rfl rfl (fun hB => (g22.1 hB))) ?_
  refine sv (yMove rfl) ?_
  refine sg rfl rfl rfl (fun g => (fa53_2 rfl)) (fun v25 g25 => ?_)
  refine sg rfl rfl rfl (fun g => (yLdB (g25.1 g) Try.isAgg42 (hS.at _) rfl)) (fun v26 g26 => ?_)
  refine sg rfl rfl rfl (fun g => (yLen (g26.1 g) Try.underlying42)) (fun v27 g27 => ?_)
  refine sg rfl rfl rfl (fun g => (yGeq (g27.1 g) rfl)) (fun v28 g28 => ?_)
  refine sv (yOr rfl rfl (fun hB => (g28.1 hB))) ?_
  refine sv (yMove rfl) ?_
  refine sg rfl rfl rfl (fun g => (fa53_1 rfl)) (fun v31 g31 => ?_)
  refine sg rfl rfl rfl (fun g => (yLdB (g31.1 g) Try.isAgg3 (hS.at _) rfl)) (fun v32 g32 => ?_)
  refine sg rfl rfl rfl (fun g => (yLss (g32.1 g) rfl)) (fun v33 g33 => ?_)
  refine sv (yOr rfl rfl (fun hB => (g33.1 hB))) ?_
  refine sv (yMove rfl) ?_
  refine sg rfl rfl rfl (fun g => (fa53_1 rfl)) (fun v36 g36 => ?_)
  refine sg rfl rfl rfl (fun g => (yLdB (g36.1 g) Try.isAgg3 (hS.at _) rfl)) (fun v37 g37 => ?_)
  refine sg rfl rfl rfl (fun g => (yGtr (g37.1 g) rfl)) (fun v38 g38 => ?_)
  refine sv (yOr rfl rfl (fun hB => (g38.1 hB))) ?_
  refine nil ?_
  show Code.wp _ _ _ _ _
  refine cond rfl (fun c39 => ?_) (fun c39 => ?_)
  ·
    simp only [Bool.and_eq_true, Bool.or_eq_true, Bool.and_eq_false_iff, Bool.or_eq_false_iff, decide_eq_true_eq, decide_eq_false_iff_not, Bool.not_eq_true, Bool.not_eq_false, Bool.not_not, Bool.not_eq_eq_eq_not, Bool.not_true, Bool.not_false, Bool.false_eq_true, Bool.true_eq_false, ne_eq, Decidable.not_not, not_false_eq_true, not_true_eq_false] at c39
    refine seq ?_
    refine region_tail mixed 2 (by kernel_rfl) hS ?_
    refine qv (fun w hS => (yLdBA rfl Try.isAgg34 Try.sizeOf34 (hS.at _) rfl rfl)) ?_
    refine qv (fun w hS => (yAsg rfl)) ?_
    clear hS; refine qtl (fun w hS => ?_)
    refine sst hS rfl rfl Try.sizeOf34 rfl rfl rfl rfl ?_; clear hS; intro w hS
    refine sv (yAsg rfl) ?_
    refine nil ?_
    show Code.wp _ _ _ _ _
    refine wp_ret (thenR ?_)
    refine retQ (resV3 rfl (rt rfl) (rc rfl Try.isAgg34 Try.sizeOf34 (hS.at _) rfl rfl) (rt rfl)) ?_
    exact .inl ⟨rfl, hS.ext⟩
  ·
    simp only [Bool.and_eq_true, Bool.or_eq_true, Bool.and_eq_false_iff, Bool.or_eq_false_iff, decide_eq_true_eq, decide_eq_false_iff_not, Bool.not_eq_true, Bool.not_eq_false, Bool.not_not, Bool.not_eq_eq_eq_not, Bool.not_true, Bool.not_false, Bool.false_eq_true, Bool.true_eq_false, ne_eq, Decidable.not_not, not_false_eq_true, not_true_eq_false] at c39
    obtain ⟨⟨⟨⟨ht1, ht2⟩, ht3⟩, ht4⟩, ht5⟩ := c39
    have htr : TruthOk x := ⟨⟨by omega, by omega⟩, by omega, ⟨by omega, by omega⟩⟩
    refine skip ?_
    show Code.wp _ _ _ _ _
    refine seq ?_
    refine region ?_
    refine sv (fa53_1 rfl) ?_
    refine sv (yLdB rfl Try.isAgg3 (hS.at _) rfl) ?_
    refine sbslice hS Try.underlying44 Try.sizeOf3 rfl Try.zeroValue3 rfl (.cons rfl rfl .nil) rfl ?_; clear hS; intro b43 w hS
    replace hS := hS.toRow 1 1 rfl (by decide)
    refine sv (yAsg rfl) ?_
    refine nil ?_
    show Code.wp _ _ _ _ _
    refine seq ?_
    refine seq ?_
    refine region ?_
    refine sv (yAsg rfl) ?_
    refine nil ?_
    show Code.wp _ _ _ _ _
    refine block ?_
    refine loop (fun f w zz => ∃ (k : Nat) (v : Value), f 2 = .pointer (some ⟨b2, 0, none⟩) ∧ f 3 = .pointer (some ⟨b3, 0, none⟩) ∧ f 5 = .pointer (some ⟨b5, 0, none⟩) ∧ f 7 = v ∧ f 8 = .int .i64 (k : Int) ∧ StX [] w0 w [rowI v 3 1 (k + 1) ((lvsK g.rate x.level x.moves k).flatMap encI), blk b5 [.string ⟨#[]⟩, .int .i64 0, .int .i64 0, .slice none 0 0, .slice none 0 0] 34, blk b3 [.int .i64 x.start, .int .i64 x.level, .slice am x.moves.length capm, .slice ag x.gaps.length capg, .slice ah x.shifts.length caph, .slice ae x.errs.length cape] 53, blk b2 [.string g.name, .int .i64 g.err, .int .i64 g.rate, .slice a g.datums.length cap, .slice a2 g.readings.length cap2] 34] ∧ (k ≤ x.moves.length) ∧ zz = x.moves.length - k) _ ⟨_, rfl, 0, _, rfl, rfl, rfl, rfl, rfl, hS, (Nat.zero_le _), rfl⟩ ?_
    clear hS
    rintro f w _ ⟨k, v, h2, h3, h5, h7, h8, hS, hk, rfl⟩
    obtain ⟨av, capv, rfl⟩ := row_shape (hS.row v)
    refine seq ?_
    refine seq ?_
    refine region ?_
    refine sv (yMove h8) ?_
    refine sv (fa53_2 h3) ?_
    refine sv (yLdB rfl Try.isAgg42 (hS.at _) rfl) ?_
    refine sv (yLen rfl Try.underlying42) ?_
    refine sv (yLss rfl rfl) ?_
    refine nil ?_
    show Code.wp _ _ _ _ _
    refine cond rfl (fun c48 => ?_) (fun c48 => ?_)
    ·
      simp only [Bool.and_eq_true, Bool.or_eq_true, Bool.and_eq_false_iff, Bool.or_eq_false_iff, decide_eq_true_eq, decide_eq_false_iff_not, Bool.not_eq_true, Bool.not_eq_false, Bool.not_not, Bool.not_eq_eq_eq_not, Bool.not_true, Bool.not_false, Bool.false_eq_true, Bool.true_eq_false, ne_eq, Decidable.not_not, not_false_eq_true, not_true_eq_false] at c48
      obtain ⟨e, hxm, _⟩ := drop_of (l := x.moves) (k := k) (by omega)
      obtain ⟨bm, om, csm, ham, hlenm, hcsm, hRm⟩ := helm (k) (by omega)
      obtain rfl : e = x.moves[k] := (List.getElem?_eq_some_iff.1 hxm).2.symm
      generalize x.moves[k] = e at hxm hRm
      obtain ⟨rfl, hlom, hhim⟩ := hRm
      have hgdm := getD_hit (d := (0 : Int)) hxm
      obtain ⟨gv, hav, _⟩ := row_get (hS.row (.slice av (k + 1) capv)) (by omega)
      have hnx : lvS g.rate x.level x.moves (k + 1) = nextL g.rate (lvS g.rate x.level x.moves k) e := by rw [← hgdm]; rfl
      refine skip ?_
      show Code.wp _ _ _ _ _
      refine seq ?_
      refine block ?_
      refine seq ?_
      refine region_draw mixed (by kernel_rfl) hS ?_
      refine qv (fun w hS => (yMove h7)) ?_
      refine qv (fun w hS => (yMove h8)) ?_
      refine qv (fun w hS => (yIxa rfl hav rfl Try.runUnderlying44 Try.sizeOf3 (by omega) (by omega))) ?_
      refine qv (fun w hS => (yLd rfl Try.isAgg3 ((flat_cells encI_len (row_at (hS.row (.slice av (k + 1) capv)) hav (by omega)) (lvsK_get (Nat.le_refl k))).one))) ?_
      refine qv (fun w hS => (fa34_2 h2)) ?_
      refine qv (fun w hS => (yLdB rfl Try.isAgg3 (hS.at _) rfl)) ?_
      refine qv (fun w hS => (fa53_2 h3)) ?_
      refine qv (fun w hS => (yLdB rfl Try.isAgg42 (hS.at _) rfl)) ?_
      refine qv (fun w hS => (yMove h8)) ?_
      refine qv (fun w hS => (yIxa rfl ham rfl Try.runUnderlying42 Try.sizeOf47 (by omega) (by omega))) ?_
      refine qv (fun w hS => (yLd rfl Try.isAgg47 ((hcsm.ext hS.ext).one))) ?_
      refine qv (fun w hS => (yToI rfl Try.underlying47 Try.underlying3 ⟨by omega, by omega⟩)) ?_
      refine qv (fun w hS => (yMax rfl rfl)) ?_
      refine qv (fun w hS => (yMulW rfl rfl)) ?_
      refine qv (fun w hS => (yQuoC rfl rfl (by decide) (w64_i64 _))) ?_
      refine qv (fun w hS => (yAddW rfl rfl)) ?_
      refine qv (fun w hS => (yAsg rfl)) ?_
      clear hS; refine qnil (fun w hS => ?_)
      show Code.wp _ _ _ _ _
      refine region ?_
      refine sv (yMove h7) ?_
      refine sv (yMove rfl) ?_
      refine sv (yMin rfl rfl) ?_
      refine sv (yMax rfl rfl) ?_
      refine sbslice hS Try.underlying44 Try.sizeOf3 rfl Try.zeroValue3 rfl (.cons rfl rfl .nil) rfl ?_; clear hS; intro b71 w hS
      refine sapp (bytes := 8) (size := 1) (v := (.slice av (k + 1) capv)) (m := 1) hS rfl rfl Try.underlying44 ti3 rfl rfl rfl rfl (by decide) (blk_cells (hS.at _)) rfl rfl (by omega) (by omega) ?_; clear hS; intro v72 w hS
      refine sv (yAsg rfl) ?_
      refine nil ?_
      show Code.wp _ _ _ _ _
      refine region ?_
      refine sv (yMove h8) ?_
      refine sv (yAdd rfl rfl ⟨by omega, by omega⟩) ?_
      refine sv (yAsg rfl) ?_
      refine nil ?_
      exact ⟨_, _, rfl, ⟨k + 1, _, h2, h3, h5, rfl, rfl, (by rw [lvsK_succ, List.flatMap_append, hnx]; exact hS.sub (.cons _ (List.Sublist.refl _))), (by omega), rfl⟩, by omega⟩
    ·
      simp only [Bool.and_eq_true, Bool.or_eq_true, Bool.and_eq_false_iff, Bool.or_eq_false_iff, decide_eq_true_eq, decide_eq_false_iff_not, Bool.not_eq_true, Bool.not_eq_false, Bool.not_not, Bool.not_eq_eq_eq_not, Bool.not_true, Bool.not_false, Bool.false_eq_true, Bool.true_eq_false, ne_eq, Decidable.not_not, not_false_eq_true, not_true_eq_false] at c48
      obtain rfl : k = x.moves.length := by omega
      refine exit ?_
      show Code.wp _ _ _ _ _
      refine seq ?_
      refine region ?_
      refine sv (fa34_4 h2) ?_
      refine sst hS rfl rfl Try.sizeOf32 rfl rfl rfl rfl ?_; clear hS; intro w hS
      refine nil ?_
      show Code.wp _ _ _ _ _
      refine seq ?_
      refine region ?_
      refine sv (yAsg rfl) ?_
      refine nil ?_
      show Code.wp _ _ _ _ _
      refine seq ?_
      refine seq ?_
      refine region ?_
      refine sv (yAsg rfl) ?_
      refine nil ?_
      show Code.wp _ _ _ _ _
      refine block ?_
      refine loop (fun f w zz => ∃ (k : Nat) (rv : Value), f 2 = .pointer (some ⟨b2, 0, none⟩) ∧ f 3 = .pointer (some ⟨b3, 0, none⟩) ∧ f 5 = .pointer (some ⟨b5, 0, none⟩) ∧ f 7 = .slice av (x.moves.length + 1) capv ∧ f 10 = .int .i64 (atP x.gaps k) ∧ f 11 = .int .i64 (k : Int) ∧ StX [] w0 w [rowI rv 103 2 k ((mkRs g x k).flatMap readC), rowI (.slice av (x.moves.length + 1) capv) 3 1 (x.moves.length + 1) ((lvsK g.rate x.level x.moves x.moves.length).flatMap encI), blk b5 [.string ⟨#[]⟩, .int .i64 0, .int .i64 0, .slice none 0 0, .slice none 0 0] 34, blk b3 [.int .i64 x.start, .int .i64 x.level, .slice am x.moves.length capm, .slice ag x.gaps.length capg, .slice ah x.shifts.length caph, .slice ae x.errs.length cape] 53, blk b2 [.string g.name, .int .i64 g.err, .int .i64 g.rate, .slice a g.datums.length cap, rv] 34] ∧ (k ≤ x.gaps.length) ∧ (k ≤ 60) ∧ (∀ i, i < k → atS x.gaps i < x.moves.length + 1) ∧ (Bd (atP x.gaps k) 0 150) ∧ zz = x.gaps.length - k) _ ⟨_, rfl, 0, _, h2, h3, h5, h7, rfl, rfl, ((hS.nilrow 103 2).sub (.cons_cons _ (List.Sublist.refl _))), (Nat.zero_le _), (Nat.zero_le _), (fun i hi => absurd hi (Nat.not_lt_zero i)), (show Bd (0 : Int) 0 150 by decide), rfl⟩ ?_
      clear hS
      rintro f w _ ⟨k, rv, h2, h3, h5, h7, h10, h11, hS, hk, hk6, hat, hap, rfl⟩
      refine seq ?_
      refine seq ?_
      refine region ?_
      refine sv (yMove h11) ?_
      refine sv (fa53_3 h3) ?_
      refine sv (yLdB rfl Try.isAgg51 (hS.at _) rfl) ?_
      refine sv (yLen rfl Try.underlying51) ?_
      refine sv (yLss rfl rfl) ?_
      refine sv (yMove rfl) ?_
      refine sg rfl rfl rfl (fun g => (yMove h11)) (fun v80 g80 => ?_)
      refine sg rfl rfl rfl (fun g => (yLss (g80.1 g) rfl)) (fun v81 g81 => ?_)
      refine sv (yAnd rfl (fun hB => (g81.1 hB)) rfl) ?_
      refine nil ?_
      show Code.wp _ _ _ _ _
      refine cond rfl (fun c82 => ?_) (fun c82 => ?_)
      ·
        simp only [Bool.and_eq_true, Bool.or_eq_true, Bool.and_eq_false_iff, Bool.or_eq_false_iff, decide_eq_true_eq, decide_eq_false_iff_not, Bool.not_eq_true, Bool.not_eq_false, Bool.not_not, Bool.not_eq_eq_eq_not, Bool.not_true, Bool.not_false, Bool.false_eq_true, Bool.true_eq_false, ne_eq, Decidable.not_not, not_false_eq_true, not_true_eq_false] at c82
        obtain ⟨e, hxg, _⟩ := drop_of (l := x.gaps) (k := k) (by omega)
        obtain ⟨bg, og, csg, hag, hleng, hcsg, hRg⟩ := helg (k) (by omega)
        obtain rfl : e = x.gaps[k] := (List.getElem?_eq_some_iff.1 hxg).2.symm
        generalize x.gaps[k] = e at hxg hRg
        obtain ⟨rfl, hlog, hhig⟩ := hRg
        have hgdg := getD_hit (d := (0 : Int)) hxg
        have hah0 := atS_here (k := k) hgdg
        have hs0 := atS_nonneg (gaps := x.gaps) k
        have hem := Int.emod_nonneg e (show (8 : Int) ≠ 0 by decide)
        have hem2 := Int.emod_lt_of_pos e (show (0 : Int) < 8 by decide)
        refine skip ?_
        show Code.wp _ _ _ _ _
        refine seq ?_
        refine block ?_
        refine seq ?_
        refine region ?_
        refine sv (yMove h10) ?_
        refine sv (fa53_3 h3) ?_
        refine sv (yLdB rfl Try.isAgg51 (hS.at _) rfl) ?_
        refine sv (yMove h11) ?_
        refine sv (yIxa rfl hag rfl Try.runUnderlying51 Try.sizeOf5 (by omega) (by omega)) ?_
        refine sv (yLd rfl Try.isAgg5 ((hcsg.ext hS.ext).one)) ?_
        refine sv (yToI rfl Try.underlying5 Try.underlying3 ⟨by omega, by omega⟩) ?_
        refine sv (yRemP rfl rfl (by omega) (by decide)) ?_
        refine sv (yAdd rfl rfl ⟨by omega, by omega⟩) ?_
        refine sv (yAsg rfl) ?_
        refine nil ?_
        show Code.wp _ _ _ _ _
        refine seqJ (n := 191) (fun f w => f 2 = .pointer (some ⟨b2, 0, none⟩) ∧ f 3 = .pointer (some ⟨b3, 0, none⟩) ∧ f 5 = .pointer (some ⟨b5, 0, none⟩) ∧ f 7 = .slice av (x.moves.length + 1) capv ∧ f 10 = .int .i64 (atS x.gaps k) ∧ f 11 = .int .i64 (k : Int) ∧ StX [] w0 w [rowI rv 103 2 k ((mkRs g x k).flatMap readC), rowI (.slice av (x.moves.length + 1) capv) 3 1 (x.moves.length + 1) ((lvsK g.rate x.level x.moves x.moves.length).flatMap encI), blk b5 [.string ⟨#[]⟩, .int .i64 0, .int .i64 0, .slice none 0 0, .slice none 0 0] 34, blk b3 [.int .i64 x.start, .int .i64 x.level, .slice am x.moves.length capm, .slice ag x.gaps.length capg, .slice ah x.shifts.length caph, .slice ae x.errs.length cape] 53, blk b2 [.string g.name, .int .i64 g.err, .int .i64 g.rate, .slice a g.datums.length cap, rv] 34] ∧ True) ?_ ?_
        ·
          refine seq ?_
          refine region ?_
          refine sv (yMove h11) ?_
          refine sv (yGtr rfl rfl) ?_
          refine nil ?_
          show Code.wp _ _ _ _ _
          refine cond rfl (fun c95 => ?_) (fun c95 => ?_)
          ·
            simp only [Bool.and_eq_true, Bool.or_eq_true, Bool.and_eq_false_iff, Bool.or_eq_false_iff, decide_eq_true_eq, decide_eq_false_iff_not, Bool.not_eq_true, Bool.not_eq_false, Bool.not_not, Bool.not_eq_eq_eq_not, Bool.not_true, Bool.not_false, Bool.false_eq_true, Bool.true_eq_false, ne_eq, Decidable.not_not, not_false_eq_true, not_true_eq_false] at c95
            refine region ?_
            refine sv (yMove rfl) ?_
            refine sv (yAdd rfl rfl ⟨by omega, by omega⟩) ?_
            refine sv (yAsg rfl) ?_
            refine nil ?_
            exact ⟨_, rfl, h2, h3, h5, h7, (eqI (by rw [hah0, if_pos c95])), h11, hS, trivial⟩
          ·
            simp only [Bool.and_eq_true, Bool.or_eq_true, Bool.and_eq_false_iff, Bool.or_eq_false_iff, decide_eq_true_eq, decide_eq_false_iff_not, Bool.not_eq_true, Bool.not_eq_false, Bool.not_not, Bool.not_eq_eq_eq_not, Bool.not_true, Bool.not_false, Bool.false_eq_true, Bool.true_eq_false, ne_eq, Decidable.not_not, not_false_eq_true, not_true_eq_false] at c95
            refine skip ?_
            exact ⟨_, rfl, h2, h3, h5, h7, (eqI (by rw [hah0, if_neg c95])), h11, hS, trivial⟩
        ·
          clear hS; rintro f w ⟨h2, h3, h5, h7, h10, h11, hS, -⟩
          refine seq ?_
          refine seq ?_
          refine region ?_
          refine sv (yMove h10) ?_
          refine sv (yMove h7) ?_
          refine sv (yLen rfl Try.underlying44) ?_
          refine sv (yGeq rfl rfl) ?_
          refine nil ?_
          show Code.wp _ _ _ _ _
          refine cond rfl (fun c101 => ?_) (fun c101 => ?_)
          ·
            simp only [Bool.and_eq_true, Bool.or_eq_true, Bool.and_eq_false_iff, Bool.or_eq_false_iff, decide_eq_true_eq, decide_eq_false_iff_not, Bool.not_eq_true, Bool.not_eq_false, Bool.not_not, Bool.not_eq_eq_eq_not, Bool.not_true, Bool.not_false, Bool.false_eq_true, Bool.true_eq_false, ne_eq, Decidable.not_not, not_false_eq_true, not_true_eq_false] at c101
            refine exit ?_
            show Code.wp _ _ _ _ _
            refine seq ?_
            refine region_tail mixed 3 (by kernel_rfl) hS ?_
            obtain ⟨ar, capr, rfl⟩ := row_shape (hS.row rv)
            refine qv (fun w hS => (yMove h7)) ?_
            refine qv (fun w hS => (yLdBA h2 Try.isAgg34 Try.sizeOf34 (hS.at _) rfl rfl)) ?_
            refine qv (fun w hS => (yAsg rfl)) ?_
            clear hS; refine qtl (fun w hS => ?_)
            refine sst hS h5 rfl Try.sizeOf34 rfl rfl rfl rfl ?_; clear hS; intro w hS
            refine sv (yAsg rfl) ?_
            refine nil ?_
            show Code.wp _ _ _ _ _
            refine wp_ret ?_
            refine retQ (resV3 rfl (rt rfl) (rc h5 Try.isAgg34 Try.sizeOf34 (hS.at _) rfl rfl) (rt rfl)) ?_
            refine .inr ⟨_, _, k, rfl, htr, hk6, hat, ?_⟩
            exact hS.sub (.cons_cons _ (.cons_cons _ (List.nil_sublist _)))
          ·
            simp only [Bool.and_eq_true, Bool.or_eq_true, Bool.and_eq_false_iff, Bool.or_eq_false_iff, decide_eq_true_eq, decide_eq_false_iff_not, Bool.not_eq_true, Bool.not_eq_false, Bool.not_not, Bool.not_eq_eq_eq_not, Bool.not_true, Bool.not_false, Bool.false_eq_true, Bool.true_eq_false, ne_eq, Decidable.not_not, not_false_eq_true, not_true_eq_false] at c101
            have c101 : atS x.gaps k < x.moves.length + 1 := by omega
            obtain ⟨n, hn⟩ := Int.eq_ofNat_of_zero_le hs0
            have htn : (atS x.gaps k).toNat = n := by rw [hn]; rfl
            obtain ⟨gv, hav, _⟩ := row_get (hS.row (.slice av (x.moves.length + 1) capv)) (by omega)
            refine skip ?_
            show Code.wp _ _ _ _ _
            refine seq ?_
            refine region ?_
            refine sv (yAsg rfl) ?_
            refine nil ?_
            show Code.wp _ _ _ _ _
            refine seq ?_
            refine seq ?_
            refine region ?_
            refine sv (yAsg rfl) ?_
            refine nil ?_
            show Code.wp _ _ _ _ _
            refine block ?_
            refine loop (fun f w zz => ∃ (j : Nat), f 2 = .pointer (some ⟨b2, 0, none⟩) ∧ f 3 = .pointer (some ⟨b3, 0, none⟩) ∧ f 5 = .pointer (some ⟨b5, 0, none⟩) ∧ f 7 = .slice av (x.moves.length + 1) capv ∧ f 10 = .int .i64 (atS x.gaps k) ∧ f 11 = .int .i64 (k : Int) ∧ f 12 = .int .i64 (datK g.datums (x.start + atS x.gaps k) j : Nat) ∧ f 13 = .int .i64 (j : Int) ∧ StX [] w0 w [rowI rv 103 2 k ((mkRs g x k).flatMap readC), rowI (.slice av (x.moves.length + 1) capv) 3 1 (x.moves.length + 1) ((lvsK g.rate x.level x.moves x.moves.length).flatMap encI), blk b5 [.string ⟨#[]⟩, .int .i64 0, .int .i64 0, .slice none 0 0, .slice none 0 0] 34, blk b3 [.int .i64 x.start, .int .i64 x.level, .slice am x.moves.length capm, .slice ag x.gaps.length capg, .slice ah x.shifts.length caph, .slice ae x.errs.length cape] 53, blk b2 [.string g.name, .int .i64 g.err, .int .i64 g.rate, .slice a g.datums.length cap, rv] 34] ∧ (j ≤ g.datums.length) ∧ zz = g.datums.length - j) _ ⟨_, rfl, 0, h2, h3, h5, h7, h10, h11, rfl, rfl, hS, (Nat.zero_le _), rfl⟩ ?_
            clear hS
            rintro f w _ ⟨j, h2, h3, h5, h7, h10, h11, h12, h13, hS, hj, rfl⟩
            refine seq ?_
            refine seq ?_
            refine region ?_
            refine sv (yMove h13) ?_
            refine sv (fa34_3 h2) ?_
            refine sv (yLdB rfl Try.isAgg31 (hS.at _) rfl) ?_
            refine sv (yLen rfl Try.underlying31) ?_
            refine sv (yLss rfl rfl) ?_
            refine nil ?_
            show Code.wp _ _ _ _ _
            refine cond rfl (fun c106 => ?_) (fun c106 => ?_)
            ·
              simp only [Bool.and_eq_true, Bool.or_eq_true, Bool.and_eq_false_iff, Bool.or_eq_false_iff, decide_eq_true_eq, decide_eq_false_iff_not, Bool.not_eq_true, Bool.not_eq_false, Bool.not_not, Bool.not_eq_eq_eq_not, Bool.not_true, Bool.not_false, Bool.false_eq_true, Bool.true_eq_false, ne_eq, Decidable.not_not, not_false_eq_true, not_true_eq_false] at c106
              obtain ⟨d, hx, hd⟩ := drop_of (l := g.datums) (k := j) (by omega)
              obtain ⟨b, o, cs, ha, hlen, hcs, hR⟩ := hel (j) (by omega)
              obtain rfl : d = g.datums[j] := (List.getElem?_eq_some_iff.1 hx).2.symm
              generalize g.datums[j] = d at hx hd hR
              obtain ⟨rfl, hd1, hd2, hd3⟩ := hR
              refine skip ?_
              show Code.wp _ _ _ _ _
              refine seq ?_
              refine block ?_
              refine seq ?_
              refine region_draw mixed (by kernel_rfl) hS ?_
              refine qv (fun w hS => (fa34_3 h2)) ?_
              refine qv (fun w hS => (yLdB rfl Try.isAgg31 (hS.at _) rfl)) ?_
              refine qv (fun w hS => (yMove h13)) ?_
              refine qv (fun w hS => (yIxa rfl ha rfl Try.runUnderlying31 Try.sizeOf78 (by omega) (by omega))) ?_
              refine qv (fun w hS => (fa78_0 rfl)) ?_
              refine qv (fun w hS => (yLd rfl Try.isAgg3 ((hcs.ext hS.ext).at (j := 0) rfl))) ?_
              refine qv (fun w hS => (fa53_0 h3)) ?_
              refine qv (fun w hS => (yLdB rfl Try.isAgg3 (hS.at _) rfl)) ?_
              refine qv (fun w hS => (yMove h10)) ?_
              refine qv (fun w hS => (yAdd rfl rfl ⟨by omega, by omega⟩)) ?_
              refine qv (fun w hS => (yLeq rfl rfl)) ?_
              clear hS; refine qnil (fun w hS => ?_)
              show Code.wp _ _ _ _ _
              refine cond rfl (fun c119 => ?_) (fun c119 => ?_)
              ·
                simp only [Bool.and_eq_true, Bool.or_eq_true, Bool.and_eq_false_iff, Bool.or_eq_false_iff, decide_eq_true_eq, decide_eq_false_iff_not, Bool.not_eq_true, Bool.not_eq_false, Bool.not_not, Bool.not_eq_eq_eq_not, Bool.not_true, Bool.not_false, Bool.false_eq_true, Bool.true_eq_false, ne_eq, Decidable.not_not, not_false_eq_true, not_true_eq_false] at c119
                refine region ?_
                refine sv (yMove h13) ?_
                refine sv (yAsg rfl) ?_
                refine nil ?_
                show Code.wp _ _ _ _ _
                refine region ?_
                refine sv (yMove h13) ?_
                refine sv (yAdd rfl rfl ⟨by omega, by omega⟩) ?_
                refine sv (yAsg rfl) ?_
                refine nil ?_
                exact ⟨_, _, rfl, ⟨j + 1, h2, h3, h5, h7, h10, h11, (Eq.trans rfl (eqI (by rw [datK, getD_hit hx, if_pos c119]))), rfl, hS, (by omega), rfl⟩, by omega⟩
              ·
                simp only [Bool.and_eq_true, Bool.or_eq_true, Bool.and_eq_false_iff, Bool.or_eq_false_iff, decide_eq_true_eq, decide_eq_false_iff_not, Bool.not_eq_true, Bool.not_eq_false, Bool.not_not, Bool.not_eq_eq_eq_not, Bool.not_true, Bool.not_false, Bool.false_eq_true, Bool.true_eq_false, ne_eq, Decidable.not_not, not_false_eq_true, not_true_eq_false] at c119
                refine skip ?_
                show Code.wp _ _ _ _ _
                refine region ?_
                refine sv (yMove h13) ?_
                refine sv (yAdd rfl rfl ⟨by omega, by omega⟩) ?_
                refine sv (yAsg rfl) ?_
                refine nil ?_
                exact ⟨_, _, rfl, ⟨j + 1, h2, h3, h5, h7, h10, h11, (Eq.trans h12 (eqI (by rw [datK, getD_hit hx, if_neg c119]))), rfl, hS, (by omega), rfl⟩, by omega⟩
            ·
              simp only [Bool.and_eq_true, Bool.or_eq_true, Bool.and_eq_false_iff, Bool.or_eq_false_iff, decide_eq_true_eq, decide_eq_false_iff_not, Bool.not_eq_true, Bool.not_eq_false, Bool.not_not, Bool.not_eq_eq_eq_not, Bool.not_true, Bool.not_false, Bool.false_eq_true, Bool.true_eq_false, ne_eq, Decidable.not_not, not_false_eq_true, not_true_eq_false] at c106
              obtain rfl : j = g.datums.length := by omega
              obtain ⟨dd, hdd⟩ : ∃ dd, dd = datK g.datums (x.start + atS x.gaps k) g.datums.length := ⟨_, rfl⟩
              rw [← hdd] at h12
              refine exit ?_
              show Code.wp _ _ _ _ _
              refine seq ?_
              refine region ?_
              refine sv (yMove h7) ?_
              refine sv (yMove h10) ?_
              refine sv (yIxa rfl hav rfl Try.runUnderlying44 Try.sizeOf3 (by omega) (by omega)) ?_
              refine sv (yLd rfl Try.isAgg3 ((flat_cells encI_len (row_at (hS.row (.slice av (x.moves.length + 1) capv)) hav (by omega)) (lvsK_get (show (atS x.gaps k).toNat ≤ x.moves.length by omega))).one)) ?_
              refine sv (yAsg rfl) ?_
              refine nil ?_
              show Code.wp _ _ _ _ _
              refine seqJ (n := 191) (fun f w => f 2 = .pointer (some ⟨b2, 0, none⟩) ∧ f 3 = .pointer (some ⟨b3, 0, none⟩) ∧ f 5 = .pointer (some ⟨b5, 0, none⟩) ∧ f 7 = .slice av (x.moves.length + 1) capv ∧ f 10 = .int .i64 (atS x.gaps k) ∧ f 11 = .int .i64 (k : Int) ∧ f 14 = .int .i64 (shV g x dd (lvS g.rate x.level x.moves (atS x.gaps k).toNat)) ∧ StX [] w0 w [rowI rv 103 2 k ((mkRs g x k).flatMap readC), rowI (.slice av (x.moves.length + 1) capv) 3 1 (x.moves.length + 1) ((lvsK g.rate x.level x.moves x.moves.length).flatMap encI), blk b5 [.string ⟨#[]⟩, .int .i64 0, .int .i64 0, .slice none 0 0, .slice none 0 0] 34, blk b3 [.int .i64 x.start, .int .i64 x.level, .slice am x.moves.length capm, .slice ag x.gaps.length capg, .slice ah x.shifts.length caph, .slice ae x.errs.length cape] 53, blk b2 [.string g.name, .int .i64 g.err, .int .i64 g.rate, .slice a g.datums.length cap, rv] 34] ∧ True) ?_ ?_
              ·
                refine seq ?_
                refine region ?_
                refine sv (yMove h12) ?_
                refine sv (fa34_3 h2) ?_
                refine sv (yLdB rfl Try.isAgg31 (hS.at _) rfl) ?_
                refine sv (yLen rfl Try.underlying31) ?_
                refine sv (yLss rfl rfl) ?_
                refine nil ?_
                show Code.wp _ _ _ _ _
                refine cond rfl (fun c129 => ?_) (fun c129 => ?_)
                ·
                  simp only [Bool.and_eq_true, Bool.or_eq_true, Bool.and_eq_false_iff, Bool.or_eq_false_iff, decide_eq_true_eq, decide_eq_false_iff_not, Bool.not_eq_true, Bool.not_eq_false, Bool.not_not, Bool.not_eq_eq_eq_not, Bool.not_true, Bool.not_false, Bool.false_eq_true, Bool.true_eq_false, ne_eq, Decidable.not_not, not_false_eq_true, not_true_eq_false] at c129
                  obtain ⟨d, hx, hd⟩ := drop_of (l := g.datums) (k := dd) (by omega)
                  obtain ⟨b, o, cs, ha, hlen, hcs, hR⟩ := hel (dd) (by omega)
                  obtain rfl : d = g.datums[dd] := (List.getElem?_eq_some_iff.1 hx).2.symm
                  generalize g.datums[dd] = d at hx hd hR
                  obtain ⟨rfl, hd1, hd2, hd3⟩ := hR
                  have hgdd := getD_hit (d := (⟨0, ⟨0, 0⟩⟩ : Datum)) hx
                  have hddl : dd < g.datums.length := by omega
                  refine seq ?_
                  refine region ?_
                  refine sv (fa34_3 h2) ?_
                  refine sv (yLdB rfl Try.isAgg31 (hS.at _) rfl) ?_
                  refine sv (yMove h12) ?_
                  refine sv (yIxa rfl ha rfl Try.runUnderlying31 Try.sizeOf78 (by omega) (by omega)) ?_
                  refine sv (fa78_1 rfl) ?_
                  refine sv (yLdA rfl Try.isAgg38 Try.sizeOf38 ((hcs.mid (xs := spanC d.shift) 1 rfl).ext hS.ext) rfl) ?_
                  refine salloc hS Try.zeroValue38 rfl ?_; clear hS; intro b15 w hS
                  refine sst hS rfl rfl Try.sizeOf38 rfl rfl rfl rfl ?_; clear hS; intro w hS
                  refine nil ?_
                  show Code.wp _ _ _ _ _
                  refine seq ?_
                  refine region ?_
                  refine sv (yMove rfl) ?_
                  refine sv (fa38_0 rfl) ?_
                  refine sv (yLdB rfl Try.isAgg3 (hS.at _) rfl) ?_
                  refine sv (yAddW rfl rfl) ?_
                  refine sv (yAsg rfl) ?_
                  refine nil ?_
                  show Code.wp _ _ _ _ _
                  refine seq ?_
                  refine region ?_
                  refine sv (yMove h12) ?_
                  refine sv (fa53_4 h3) ?_
                  refine sv (yLdB rfl Try.isAgg51 (hS.at _) rfl) ?_
                  refine sv (yLen rfl Try.underlying51) ?_
                  refine sv (yLss rfl rfl) ?_
                  refine nil ?_
                  show Code.wp _ _ _ _ _
                  refine cond rfl (fun c144 => ?_) (fun c144 => ?_)
                  ·
                    simp only [Bool.and_eq_true, Bool.or_eq_true, Bool.and_eq_false_iff, Bool.or_eq_false_iff, decide_eq_true_eq, decide_eq_false_iff_not, Bool.not_eq_true, Bool.not_eq_false, Bool.not_not, Bool.not_eq_eq_eq_not, Bool.not_true, Bool.not_false, Bool.false_eq_true, Bool.true_eq_false, ne_eq, Decidable.not_not, not_false_eq_true, not_true_eq_false] at c144
                    obtain ⟨e, hxs, _⟩ := drop_of (l := x.shifts) (k := dd) (by omega)
                    obtain ⟨bs, os, css, has, hlens, hcss, hRs⟩ := helh (dd) (by omega)
                    obtain rfl : e = x.shifts[dd] := (List.getElem?_eq_some_iff.1 hxs).2.symm
                    generalize x.shifts[dd] = e at hxs hRs
                    obtain ⟨rfl, hlos, hhis⟩ := hRs
                    have hgds := getD_hit (d := (0 : Int)) hxs
                    refine region_draw mixed (by kernel_rfl) hS ?_
                    refine qv (fun w hS => (yMove rfl)) ?_
                    refine qv (fun w hS => (fa38_1 rfl)) ?_
                    refine qv (fun w hS => (yLdB rfl Try.isAgg3 (hS.at _) rfl)) ?_
                    refine qv (fun w hS => (fa38_0 rfl)) ?_
                    refine qv (fun w hS => (yLdB rfl Try.isAgg3 (hS.at _) rfl)) ?_
                    refine qv (fun w hS => (ySubW rfl rfl)) ?_
                    refine qv (fun w hS => (fa53_4 h3)) ?_
                    refine qv (fun w hS => (yLdB rfl Try.isAgg51 (hS.at _) rfl)) ?_
                    refine qv (fun w hS => (yMove h12)) ?_
                    refine qv (fun w hS => (yIxa rfl has rfl Try.runUnderlying51 Try.sizeOf5 (by omega) (by omega))) ?_
                    refine qv (fun w hS => (yLd rfl Try.isAgg5 ((hcss.ext hS.ext).one))) ?_
                    refine qv (fun w hS => (yToI rfl Try.underlying5 Try.underlying3 ⟨by omega, by omega⟩)) ?_
                    refine qv (fun w hS => (yMulW rfl rfl)) ?_
                    refine qv (fun w hS => (yQuoC rfl rfl (by decide) (w64_i64 _))) ?_
                    refine qv (fun w hS => (yAddW rfl rfl)) ?_
                    refine qv (fun w hS => (yAsg rfl)) ?_
                    clear hS; refine qnil (fun w hS => ?_)
                    exact ⟨_, rfl, h2, h3, h5, h7, h10, h11, (eqI (by unfold shV; rw [if_pos hddl, hgdd]; simp only []; rw [if_pos (by omega), hgds])), (hS.sub (.cons _ (List.Sublist.refl _))), trivial⟩
                  ·
                    simp only [Bool.and_eq_true, Bool.or_eq_true, Bool.and_eq_false_iff, Bool.or_eq_false_iff, decide_eq_true_eq, decide_eq_false_iff_not, Bool.not_eq_true, Bool.not_eq_false, Bool.not_not, Bool.not_eq_eq_eq_not, Bool.not_true, Bool.not_false, Bool.false_eq_true, Bool.true_eq_false, ne_eq, Decidable.not_not, not_false_eq_true, not_true_eq_false] at c144
                    refine skip ?_
                    exact ⟨_, rfl, h2, h3, h5, h7, h10, h11, (eqI (by unfold shV; rw [if_pos hddl, hgdd]; simp only []; rw [if_neg (by omega)])), (hS.sub (.cons _ (List.Sublist.refl _))), trivial⟩
                ·
                  simp only [Bool.and_eq_true, Bool.or_eq_true, Bool.and_eq_false_iff, Bool.or_eq_false_iff, decide_eq_true_eq, decide_eq_false_iff_not, Bool.not_eq_true, Bool.not_eq_false, Bool.not_not, Bool.not_eq_eq_eq_not, Bool.not_true, Bool.not_false, Bool.false_eq_true, Bool.true_eq_false, ne_eq, Decidable.not_not, not_false_eq_true, not_true_eq_false] at c129
                  have hddl : ¬ dd < g.datums.length := by omega
                  refine skip ?_
                  exact ⟨_, rfl, h2, h3, h5, h7, h10, h11, (eqI (by unfold shV; rw [if_neg hddl])), hS, trivial⟩
              ·
                clear hS; rintro f w ⟨h2, h3, h5, h7, h10, h11, h14, hS, -⟩
                refine seqJ (n := 191) (fun f w => f 2 = .pointer (some ⟨b2, 0, none⟩) ∧ f 3 = .pointer (some ⟨b3, 0, none⟩) ∧ f 5 = .pointer (some ⟨b5, 0, none⟩) ∧ f 7 = .slice av (x.moves.length + 1) capv ∧ f 10 = .int .i64 (atS x.gaps k) ∧ f 11 = .int .i64 (k : Int) ∧ f 14 = .int .i64 (mkR g x k).value ∧ StX [] w0 w [rowI rv 103 2 k ((mkRs g x k).flatMap readC), rowI (.slice av (x.moves.length + 1) capv) 3 1 (x.moves.length + 1) ((lvsK g.rate x.level x.moves x.moves.length).flatMap encI), blk b5 [.string ⟨#[]⟩, .int .i64 0, .int .i64 0, .slice none 0 0, .slice none 0 0] 34, blk b3 [.int .i64 x.start, .int .i64 x.level, .slice am x.moves.length capm, .slice ag x.gaps.length capg, .slice ah x.shifts.length caph, .slice ae x.errs.length cape] 53, blk b2 [.string g.name, .int .i64 g.err, .int .i64 g.rate, .slice a g.datums.length cap, rv] 34] ∧ True) ?_ ?_
                ·
                  refine seq ?_
                  refine region ?_
                  refine sv (yMove h11) ?_
                  refine sv (fa53_5 h3) ?_
                  refine sv (yLdB rfl Try.isAgg42 (hS.at _) rfl) ?_
                  refine sv (yLen rfl Try.underlying42) ?_
                  refine sv (yLss rfl rfl) ?_
                  refine nil ?_
                  show Code.wp _ _ _ _ _
                  refine cond rfl (fun c164 => ?_) (fun c164 => ?_)
                  ·
                    simp only [Bool.and_eq_true, Bool.or_eq_true, Bool.and_eq_false_iff, Bool.or_eq_false_iff, decide_eq_true_eq, decide_eq_false_iff_not, Bool.not_eq_true, Bool.not_eq_false, Bool.not_not, Bool.not_eq_eq_eq_not, Bool.not_true, Bool.not_false, Bool.false_eq_true, Bool.true_eq_false, ne_eq, Decidable.not_not, not_false_eq_true, not_true_eq_false] at c164
                    obtain ⟨e, hxe, _⟩ := drop_of (l := x.errs) (k := k) (by omega)
                    obtain ⟨be, oe, cse, hae, hlene, hcse, hRe⟩ := hele (k) (by omega)
                    obtain rfl : e = x.errs[k] := (List.getElem?_eq_some_iff.1 hxe).2.symm
                    generalize x.errs[k] = e at hxe hRe
                    obtain ⟨rfl, hloe, hhie⟩ := hRe
                    have hgde := getD_hit (d := (0 : Int)) hxe
                    refine region_draw mixed (by kernel_rfl) hS ?_
                    refine qv (fun w hS => (yMove h14)) ?_
                    refine qv (fun w hS => (fa34_1 h2)) ?_
                    refine qv (fun w hS => (yLdB rfl Try.isAgg3 (hS.at _) rfl)) ?_
                    refine qv (fun w hS => (fa53_5 h3)) ?_
                    refine qv (fun w hS => (yLdB rfl Try.isAgg42 (hS.at _) rfl)) ?_
                    refine qv (fun w hS => (yMove h11)) ?_
                    refine qv (fun w hS => (yIxa rfl hae rfl Try.runUnderlying42 Try.sizeOf47 (by omega) (by omega))) ?_
                    refine qv (fun w hS => (yLd rfl Try.isAgg47 ((hcse.ext hS.ext).one))) ?_
                    refine qv (fun w hS => (yToI rfl Try.underlying47 Try.underlying3 ⟨by omega, by omega⟩)) ?_
                    refine qv (fun w hS => (yMax rfl rfl)) ?_
                    refine qv (fun w hS => (yMulW rfl rfl)) ?_
                    refine qv (fun w hS => (yQuoC rfl rfl (by decide) (w64_i64 _))) ?_
                    refine qv (fun w hS => (yAddW rfl rfl)) ?_
                    refine qv (fun w hS => (yAsg rfl)) ?_
                    clear hS; refine qnil (fun w hS => ?_)
                    exact ⟨_, rfl, h2, h3, h5, h7, h10, h11, (Eq.trans rfl (eqI (by unfold mkR; rw [← hdd]; unfold erV; simp only []; rw [if_pos (by omega), hgde]))), hS, trivial⟩
                  ·
                    simp only [Bool.and_eq_true, Bool.or_eq_true, Bool.and_eq_false_iff, Bool.or_eq_false_iff, decide_eq_true_eq, decide_eq_false_iff_not, Bool.not_eq_true, Bool.not_eq_false, Bool.not_not, Bool.not_eq_eq_eq_not, Bool.not_true, Bool.not_false, Bool.false_eq_true, Bool.true_eq_false, ne_eq, Decidable.not_not, not_false_eq_true, not_true_eq_false] at c164
                    refine skip ?_
                    exact ⟨_, rfl, h2, h3, h5, h7, h10, h11, (Eq.trans h14 (eqI (by unfold mkR; rw [← hdd]; unfold erV; simp only []; rw [if_neg (by omega)]))), hS, trivial⟩
                ·
                  clear hS; rintro f w ⟨h2, h3, h5, h7, h10, h11, h14, hS, -⟩
                  refine region ?_
                  refine sv (fa34_4 h2) ?_
                  refine sv (yLdB rfl Try.isAgg32 (hS.at _) rfl) ?_
                  refine sv (fa53_0 h3) ?_
                  refine sv (yLdB rfl Try.isAgg3 (hS.at _) rfl) ?_
                  refine sv (yMove h10) ?_
                  refine sv (yAdd rfl rfl ⟨by omega, by omega⟩) ?_
                  refine sv (yMove h14) ?_
                  refine sv (yBuild Try.zeroValue103 rfl pl103 (.cons rfl rfl (.cons rfl rfl .nil)) rfl) ?_
                  refine sbslice hS Try.underlying32 Try.sizeOf103 rfl Try.zeroValue103 rfl (.cons rfl rfl .nil) rfl ?_; clear hS; intro b186 w hS
                  refine sapp (bytes := 16) (size := 2) (v := rv) (m := 1) hS rfl rfl Try.underlying32 ti103 rfl rfl rfl rfl (by decide) (blk_cells (hS.at _)) rfl rfl (by omega) (by omega) ?_; clear hS; intro v187 w hS
                  refine sv (fa34_4 h2) ?_
                  obtain ⟨gr, capr, rfl, _, _, _⟩ := row_some (hS.row v187) (Nat.succ_pos _)
                  refine sst hS rfl rfl Try.sizeOf32 rfl rfl rfl rfl ?_; clear hS; intro w hS
                  refine nil ?_
                  show Code.wp _ _ _ _ _
                  refine region ?_
                  refine sv (yMove h11) ?_
                  refine sv (yAdd rfl rfl ⟨by omega, by omega⟩) ?_
                  refine sv (yAsg rfl) ?_
                  refine nil ?_
                  exact ⟨_, _, rfl, ⟨k + 1, _, h2, h3, h5, h7, h10, rfl, (by rw [mkRs_succ, List.flatMap_append]; exact hS.sub (.cons _ (List.Sublist.refl _))), (by omega), (by omega), (snoc hat c101), (⟨hs0, by show atS x.gaps k ≤ 150; omega⟩), rfl⟩, by omega⟩
      ·
        simp only [Bool.and_eq_true, Bool.or_eq_true, Bool.and_eq_false_iff, Bool.or_eq_false_iff, decide_eq_true_eq, decide_eq_false_iff_not, Bool.not_eq_true, Bool.not_eq_false, Bool.not_not, Bool.not_eq_eq_eq_not, Bool.not_true, Bool.not_false, Bool.false_eq_true, Bool.true_eq_false, ne_eq, Decidable.not_not, not_false_eq_true, not_true_eq_false] at c82
        refine exit ?_
        show Code.wp _ _ _ _ _
        refine seq ?_
        refine region_tail mixed 3 (by kernel_rfl) hS ?_
        obtain ⟨ar, capr, rfl⟩ := row_shape (hS.row rv)
        refine qv (fun w hS => (yMove h7)) ?_
        refine qv (fun w hS => (yLdBA h2 Try.isAgg34 Try.sizeOf34 (hS.at _) rfl rfl)) ?_
        refine qv (fun w hS => (yAsg rfl)) ?_
        clear hS; refine qtl (fun w hS => ?_)
        refine sst hS h5 rfl Try.sizeOf34 rfl rfl rfl rfl ?_; clear hS; intro w hS
        refine sv (yAsg rfl) ?_
        refine nil ?_
        show Code.wp _ _ _ _ _
        refine wp_ret ?_
        refine retQ (resV3 rfl (rt rfl) (rc h5 Try.isAgg34 Try.sizeOf34 (hS.at _) rfl rfl) (rt rfl)) ?_
        refine .inr ⟨_, _, k, rfl, htr, hk6, hat, ?_⟩
        exact hS.sub (.cons_cons _ (.cons_cons _ (List.nil_sublist _)))
end Go.Proofs.Ytpgmehignepidaa
/- part Wk20 -/
namespace Go.Proofs.Ytpgmehignepidaa
open Go Bx
/-- What made returns, in one form. -/
theorem c_made2 {g : Gauge} {cs xs : List Value} {x : Truth} {wb w0 : World} (hg : RGauge wb cs g) (hx : RTruth wb xs x) (he : Ext wb w0) : CE Try.prog 31 #[.agg cs.toArray, .agg xs.toArray] w0 (fun v w' => ∃ lvv l rv rcs K ad nd cd ar nr cr y B, v = .tuple #[lvv, .agg ([.string g.name, .int .i64 g.err, .int .i64 g.rate, .slice ad nd cd, .slice ar nr cr] : List Value).toArray, .bool B] ∧ (B = true → Made g x y K ∧ l = lvsK g.rate x.level x.moves x.moves.length) ∧
    (∀ w'', Ext wb w'' → w''.ownsRow 0 103 2 rv K rcs → RGauge w'' [.string g.name, .int .i64 g.err, .int .i64 g.rate, .slice ad nd cd, .slice ar nr cr] y) ∧ St w0 w' [rowI rv 103 2 K rcs, rowI lvv 3 1 l.length (l.flatMap encI)]) := by
  refine (c_made (hg.ext he) (hx.ext he)).mono ?_
  obtain ⟨dv, rv, rfl, hnm, hge, hgr, hsd, hsr⟩ := id hg
  obtain ⟨a, cap, rfl, _⟩ := id hsd
  obtain ⟨a2, cap2, rfl, _⟩ := id hsr
  rintro v w' (⟨rfl, hE⟩ | ⟨lvv, rv, K, rfl, htr, hK, hat, hM⟩)
  · refine ⟨.slice none 0 0, [], .slice none 0 0, [], 0, a, _, cap, a2, _, cap2, g, false, rfl, fun h => (by cases h), fun w'' e _ => hg.ext e, ?_⟩
    exact (((⟨hE.extX, by simp, by simp [fps], by simp [fps]⟩ : StX [] w0 w' []).nilrow 3 1).nilrow 103 2)
  · obtain ⟨ar, cr, rfl⟩ := row_shape (hM.row rv)
    refine ⟨lvv, lvsK g.rate x.level x.moves x.moves.length, .slice ar K cr, (mkRs g x K).flatMap readC, K, a, _, cap, ar, K, cr, { g with readings := mkRs g x K }, true, rfl, fun _ => ⟨⟨htr, rfl, hat⟩, rfl⟩, fun w'' e ho => ⟨_, _, rfl, hnm, hge, hgr, hsd.ext RDatum.stays e, ?_⟩, ?_⟩
    · have hl := mkRs_len g x K
      have := row_sl readC_len (l := mkRs g x K) (ok := fun r => I64 r.tick ∧ I64 r.value) (by rw [hl]; exact ho) (fun r hr => by obtain ⟨i, hi, rfl⟩ := List.mem_map.1 hr; exact mkR_i64 htr (hat i (List.mem_range.1 hi)))
      exact this
    · rw [lvsK_len]; exact hM
set_option maxHeartbeats 4000000 in
/-- barrage/barragelaw01.TideTrue -/
theorem w_TideTrue {g : Gauge} {cs xs ps : List Value} {x : Truth} {at_ : Int × Int × Int} {w0 : World} (hg : RGauge w0 cs g) (hx : RTruth w0 xs x) (ha : RU3 w0 ps at_) : CV Try.prog 6 #[.agg cs.toArray, .agg xs.toArray, .agg ps.toArray] w0 (.bool true) := by
  obtain ⟨dv, rv, rfl, hnm, hge, hgr, hsd, hsr⟩ := id hg
  obtain ⟨a, cap, rfl, hcap, hmx, hel⟩ := id hsd
  obtain ⟨a2, cap2, rfl, hcap2, hmx2, hel2⟩ := id hsr
  obtain ⟨mv, gv, sv, ev, rfl, hxs, hxl, hmv, hgv, hsv, hev⟩ := id hx
  obtain ⟨am, capm, rfl, hcapm, hmxm, helm⟩ := id hmv
  obtain ⟨ag, capg, rfl, hcapg, hmxg, helg⟩ := id hgv
  obtain ⟨ah, caph, rfl, hcaph, hmxh, helh⟩ := id hsv
  obtain ⟨ae, cape, rfl, hcape, hmxe, hele⟩ := id hev
  obtain ⟨p0, p1, p2⟩ := at_
  have hps : ps = [.int .u8 p0, .int .u8 p1, .int .u8 p2] := ha.1
  subst hps
  obtain ⟨_, hp0, hp1, hp2⟩ := ha
  simp only [] at hp0 hp1 hp2
  have hsh := shares_of hx
  refine enter Try.func6 rfl Try.ntmps6 rfl ?_
  have hS := St.start w0
  refine seq ?_
  refine region ?_
  refine sbox hS rfl rfl ?_; clear hS; intro b3 w hS
  refine sbox hS rfl rfl ?_; clear hS; intro b4 w hS
  refine sbox hS rfl rfl ?_; clear hS; intro b5 w hS
  refine sv (yAsg rfl) ?_
  refine nil ?_
  show Code.wp _ _ _ _ _
  refine seq ?_
  refine region ?_
  refine sv (yLdBA rfl Try.isAgg34 Try.sizeOf34 (hS.at _) rfl rfl) ?_
  refine sv (yLdBA rfl Try.isAgg53 Try.sizeOf53 (hS.at _) rfl rfl) ?_
  refine scall Try.call31 (.cons rfl (.cons rfl .nil)) (c_made2 hg hx hS.ext) ?_
  rintro _ w ⟨lvv, l, rv, rcs, K, ad, nd, cd, ar, nr, cr, y, B, rfl, hB, hRG, hM⟩; replace hS := hS.call2 hM; clear hM; obtain ⟨al, capl, rfl⟩ := row_shape (hS.row lvv)
  refine sv (yMove rfl) ?_
  refine sv (yExt rfl rfl) ?_
  refine sv (yExt rfl rfl) ?_
  refine sv (yExt rfl rfl) ?_
  refine salloc hS Try.zeroValue34 rfl ?_; clear hS; intro b8 w hS
  refine sv (yAsg rfl) ?_
  refine sst hS rfl rfl Try.sizeOf34 rfl rfl rfl rfl ?_; clear hS; intro w hS
  refine sv (yAsg rfl) ?_
  refine nil ?_
  show Code.wp _ _ _ _ _
  refine seq ?_
  refine region ?_
  refine sv (yLdBA rfl Try.isAgg34 Try.sizeOf34 (hS.at _) rfl rfl) ?_
  refine scall Try.call24 (.cons rfl .nil) (c_CheckGauge (hRG _ hS.ext (hS.row rv))) ?_
  rintro _ w ⟨rfl, hE⟩; replace hS := hS.step hE; clear hE
  refine sv (yMove rfl) ?_
  refine sv (yExt rfl rfl) ?_
  refine sv (yExt rfl rfl) ?_
  refine sv (yExt rfl rfl) ?_
  refine sv (yAsg rfl) ?_
  refine sv (yAsg rfl) ?_
  refine sv (yAsg rfl) ?_
  refine nil ?_
  show Code.wp _ _ _ _ _
  refine seq ?_
  refine seq ?_
  refine region ?_
  refine sv (yMove rfl) ?_
  refine sv (yNot rfl) ?_
  refine sv (yMove rfl) ?_
  refine sg rfl rfl rfl (fun g => (yMove rfl)) (fun v35 g35 => ?_)
  refine sg rfl rfl rfl (fun g => (yNeq (g35.1 g) rfl)) (fun v36 g36 => ?_)
  refine sv (yOr rfl rfl (fun hB => (g36.1 hB))) ?_
  refine sv (yMove rfl) ?_
  refine sg rfl rfl rfl (fun g => (yMove rfl)) (fun v39 g39 => ?_)
  refine sg rfl rfl rfl (fun g => (yLen (g39.1 g) Try.underlying44)) (fun v40 g40 => ?_)
  refine sg rfl rfl rfl (fun g => (yEql (g40.1 g) rfl)) (fun v41 g41 => ?_)
  refine sv (yOr rfl rfl (fun hB => (g41.1 hB))) ?_
  refine nil ?_
  show Code.wp _ _ _ _ _
  refine cond rfl (fun c42 => ?_) (fun c42 => ?_)
  ·
    simp only [Bool.and_eq_true, Bool.or_eq_true, Bool.and_eq_false_iff, Bool.or_eq_false_iff, decide_eq_true_eq, decide_eq_false_iff_not, Bool.not_eq_true, Bool.not_eq_false, Bool.not_not, Bool.not_eq_eq_eq_not, Bool.not_true, Bool.not_false, Bool.false_eq_true, Bool.true_eq_false, ne_eq, Decidable.not_not, not_false_eq_true, not_true_eq_false] at c42
    refine seq ?_
    refine region ?_
    refine scall Try.call23 .nil c_Awake ?_
    rintro _ w ⟨rfl, hE⟩; replace hS := hS.step hE; clear hE
    refine sv (yAsg rfl) ?_
    refine nil ?_
    show Code.wp _ _ _ _ _
    refine wp_ret (thenR ?_)
    exact retV (res1 rfl rfl) hS.ext
  ·
    simp only [Bool.and_eq_true, Bool.or_eq_true, Bool.and_eq_false_iff, Bool.or_eq_false_iff, decide_eq_true_eq, decide_eq_false_iff_not, Bool.not_eq_true, Bool.not_eq_false, Bool.not_not, Bool.not_eq_eq_eq_not, Bool.not_true, Bool.not_false, Bool.false_eq_true, Bool.true_eq_false, ne_eq, Decidable.not_not, not_false_eq_true, not_true_eq_false] at c42
    obtain ⟨⟨hb, hy⟩, hl0⟩ := c42
    obtain ⟨hMd, hlE⟩ := hB hb
    have htr := hMd.tr
    have hst := htr.start
    have hml := htr.len
    have hll : l.length = x.moves.length + 1 := by rw [hlE, lvsK_len]
    have hye : y.rate = g.rate := by rw [hMd.y_eq]
    refine skip ?_
    show Code.wp _ _ _ _ _
    refine seq ?_
    refine region ?_
    refine sv (yIxA rfl rfl Try.runUnderlying54 Try.sizeOf5 (by omega) (by omega)) ?_
    refine sv (yLdB rfl Try.isAgg5 (hS.at _) rfl) ?_
    refine sv (yToI rfl Try.underlying5 Try.underlying3 ⟨by omega, by omega⟩) ?_
    refine sv (yMove rfl) ?_
    refine sv (yLen rfl Try.underlying44) ?_
    obtain ⟨ni, hni⟩ := Int.eq_ofNat_of_zero_le (Int.emod_nonneg p0 (show (l.length : Int) ≠ 0 by omega))
    have hnl := Int.emod_lt_of_pos p0 (show (0 : Int) < (l.length : Int) by omega)
    rw [hni] at hnl
    have hli : l[ni]? = some (lvS g.rate x.level x.moves ni) := by rw [hlE]; exact lvsK_get (by omega)
    obtain ⟨gl, hal, _⟩ := row_get (hS.row (.slice al l.length capl)) (by omega)
    refine sv (Y.to (yRemP rfl rfl (by omega) (by omega)) (show Value.int .i64 _ = .int .i64 (ni : Int) by rw [hni])) ?_
    refine sv (yAsg rfl) ?_
    refine nil ?_
    show Code.wp _ _ _ _ _
    refine seq ?_
    refine region ?_
    refine sv (fa53_0 rfl) ?_
    refine sv (yLdB rfl Try.isAgg3 (hS.at _) rfl) ?_
    refine sv (yIxA rfl rfl Try.runUnderlying54 Try.sizeOf5 (by omega) (by omega)) ?_
    refine sv (yLdB rfl Try.isAgg5 (hS.at _) rfl) ?_
    refine sv (yToI rfl Try.underlying5 Try.underlying3 ⟨by omega, by omega⟩) ?_
    obtain ⟨q1, hq1⟩ : ∃ q, q = p1 % 150 := ⟨_, rfl⟩
    have hq1b : Bd q1 0 149 := by rw [hq1]; exact ⟨Int.emod_nonneg _ (by decide), by have := Int.emod_lt_of_pos p1 (show (0 : Int) < 150 by decide); omega⟩
    refine sv (Y.to (yRemP rfl rfl (by omega) (by decide)) (show Value.int .i64 _ = .int .i64 q1 by rw [hq1])) ?_
    refine sv (yAdd rfl rfl ⟨by omega, by omega⟩) ?_
    refine sv (yAsg rfl) ?_
    refine nil ?_
    show Code.wp _ _ _ _ _
    refine seq ?_
    refine region ?_
    refine sv (yMove rfl) ?_
    refine sv (yIxA rfl rfl Try.runUnderlying54 Try.sizeOf5 (by omega) (by omega)) ?_
    refine sv (yLdB rfl Try.isAgg5 (hS.at _) rfl) ?_
    refine sv (yToI rfl Try.underlying5 Try.underlying3 ⟨by omega, by omega⟩) ?_
    refine sv (yAdd rfl rfl ⟨by omega, by omega⟩) ?_
    refine sv (yMin rfl rfl) ?_
    refine sv (yAsg rfl) ?_
    refine nil ?_
    show Code.wp _ _ _ _ _
    refine seq ?_
    refine region ?_
    refine sv (yLdBA rfl Try.isAgg34 Try.sizeOf34 (hS.at _) rfl rfl) ?_
    refine sv (fa53_0 rfl) ?_
    refine sv (yLdB rfl Try.isAgg3 (hS.at _) rfl) ?_
    refine sv (yMove rfl) ?_
    refine sv (yAdd rfl rfl ⟨by omega, by omega⟩) ?_
    refine sv (yMove rfl) ?_
    refine scall Try.call26 (.cons rfl (.cons rfl (.cons rfl .nil))) (c_Says (hRG _ hS.ext (hS.row rv)) ⟨by omega, by omega⟩ ⟨by omega, by omega⟩) ?_
    rintro _ w ⟨rfl, hE⟩; replace hS := hS.step hE; clear hE
    refine sv (yMove rfl) ?_
    refine sv (yExt rfl rfl) ?_
    refine sv (yExt rfl rfl) ?_
    refine salloc hS Try.zeroValue38 rfl ?_; clear hS; intro b16 w hS
    refine sst hS rfl rfl Try.sizeOf38 rfl rfl rfl rfl ?_; clear hS; intro w hS
    refine sv (yAsg rfl) ?_
    refine nil ?_
    show Code.wp _ _ _ _ _
    refine seq ?_
    refine region ?_
    refine sv (yLdBA rfl Try.isAgg34 Try.sizeOf34 (hS.at _) rfl rfl) ?_
    refine sv (fa53_0 rfl) ?_
    refine sv (yLdB rfl Try.isAgg3 (hS.at _) rfl) ?_
    refine sv (yMove rfl) ?_
    refine sv (yAdd rfl rfl ⟨by omega, by omega⟩) ?_
    refine sv (yMove rfl) ?_
    refine scall Try.call26 (.cons rfl (.cons rfl (.cons rfl .nil))) (c_Says (hRG _ hS.ext (hS.row rv)) ⟨by omega, by omega⟩ ⟨by omega, by omega⟩) ?_
    rintro _ w ⟨rfl, hE⟩; replace hS := hS.step hE; clear hE
    refine sv (yMove rfl) ?_
    refine sv (yExt rfl rfl) ?_
    refine sv (yExt rfl rfl) ?_
    refine salloc hS Try.zeroValue38 rfl ?_; clear hS; intro b17 w hS
    refine sst hS rfl rfl Try.sizeOf38 rfl rfl rfl rfl ?_; clear hS; intro w hS
    refine sv (yAsg rfl) ?_
    refine nil ?_
    show Code.wp _ _ _ _ _
    refine seq ?_
    refine seq ?_
    refine region ?_
    have hA := hMd.says hsh hy (i := ni) (by omega) (now := x.start + q1) ⟨by omega, by omega⟩
    have hBB := hMd.says hsh hy (i := ni) (by omega) (now := min 200000 (x.start + q1 + p2)) ⟨by omega, by omega⟩
    rw [hye] at hA hBB
    refine sv (yMove rfl) ?_
    refine sv (yEql rfl rfl) ?_
    refine nil ?_
    show Code.wp _ _ _ _ _
    refine cond rfl (fun c84 => ?_) (fun c84 => ?_)
    ·
      simp only [Bool.and_eq_true, Bool.or_eq_true, Bool.and_eq_false_iff, Bool.or_eq_false_iff, decide_eq_true_eq, decide_eq_false_iff_not, Bool.not_eq_true, Bool.not_eq_false, Bool.not_not, Bool.not_eq_eq_eq_not, Bool.not_true, Bool.not_false, Bool.false_eq_true, Bool.true_eq_false, ne_eq, Decidable.not_not, not_false_eq_true, not_true_eq_false] at c84
      refine seq ?_
      refine region_draw mixed (by kernel_rfl) hS ?_
      refine qv (fun w hS => (yMove rfl)) ?_
      refine qv (fun w hS => (yEql rfl rfl)) ?_
      refine qv (fun w hS => (yMove rfl)) ?_
      refine qg rfl rfl rfl (fun g w hS => (yMove rfl)) (fun v88 g88 => ?_)
      refine qg rfl rfl rfl (fun g w hS => (yEql (g88.1 g) rfl)) (fun v89 g89 => ?_)
      refine qg rfl rfl rfl (fun g w hS => (yMove (g89.1 g))) (fun v90 g90 => ?_)
      refine qgg rfl rfl g90 (fun g w hS => (yLdBA rfl Try.isAgg38 Try.sizeOf38 (hS.at _) rfl rfl)) (fun v91 g91 => ?_)
      refine qgg rfl rfl g90 (fun g w hS => (yMove rfl)) (fun v92 g92 => ?_)
      refine qgg rfl rfl g90 (fun g w hS => (yMove rfl)) (fun v93 g93 => ?_)
      refine qgg rfl rfl g90 (fun g w hS => (yIxa (g92.1 g) hal (g93.1 g) Try.runUnderlying44 Try.sizeOf3 (by omega) (by omega))) (fun v94 g94 => ?_)
      refine qgg rfl rfl g90 (fun g w hS => (yLd (g94.1 g) Try.isAgg3 ((flat_cells encI_len (row_at (hS.row (.slice al l.length capl)) hal (by omega)) hli).one))) (fun v95 g95 => ?_)
      refine qggc rfl rfl g90 Try.call29 (fun g => (.cons (g91.1 g) (.cons (g95.1 g) .nil))) (fun g w hS => c_has) (fun v96 g96 => ?_)
      refine qg rfl rfl rfl (fun g w hS => (yAnd (g90.1 g) (fun hB => (g96.1 ⟨g, hB⟩)) rfl)) (fun v97 g97 => ?_)
      refine qv (fun w hS => (yOr rfl rfl (fun hB => (g97.1 hB)))) ?_
      refine qv (fun w hS => (yMove rfl)) ?_
      refine qgc rfl rfl rfl Try.call23 (fun g => .nil) (fun g w hS => c_Awake) (fun v100 g100 => ?_)
      refine qv (fun w hS => (yAnd rfl (fun hB => (g100.1 hB)) rfl)) ?_
      refine qv (fun w hS => (yAsg rfl)) ?_
      clear hS; refine qnil (fun w hS => ?_)
      show Code.wp _ _ _ _ _
      have hfin : (saysF y (x.start + ni) (min 200000 (x.start + q1 + p2))).2 = 4 ∨ ((saysF y (x.start + ni) (min 200000 (x.start + q1 + p2))).2 = 0 ∧ hasB (saysF y (x.start + ni) (min 200000 (x.start + q1 + p2))).1 (lvS g.rate x.level x.moves ni) = true) := by
        rcases hBB with h | h
        · exact .inl h.2
        · exact .inr h.2
      refine wp_ret (thenR ?_)
      exact retV (res1 rfl (eqB (by rcases hfin with h | ⟨h, k⟩ <;> simp [h] <;> simp [k]))) hS.ext
    ·
      simp only [Bool.and_eq_true, Bool.or_eq_true, Bool.and_eq_false_iff, Bool.or_eq_false_iff, decide_eq_true_eq, decide_eq_false_iff_not, Bool.not_eq_true, Bool.not_eq_false, Bool.not_not, Bool.not_eq_eq_eq_not, Bool.not_true, Bool.not_false, Bool.false_eq_true, Bool.true_eq_false, ne_eq, Decidable.not_not, not_false_eq_true, not_true_eq_false] at c84
      refine skip ?_
      show Code.wp _ _ _ _ _
      refine seq ?_
      refine region_draw mixed (by kernel_rfl) hS ?_
      refine qv (fun w hS => (yMove rfl)) ?_
      refine qv (fun w hS => (yEql rfl rfl)) ?_
      refine qv (fun w hS => (yMove rfl)) ?_
      refine qg rfl rfl rfl (fun g w hS => (yMove rfl)) (fun v105 g105 => ?_)
      refine qg rfl rfl rfl (fun g w hS => (yEql (g105.1 g) rfl)) (fun v106 g106 => ?_)
      refine qv (fun w hS => (yAnd rfl (fun hB => (g106.1 hB)) rfl)) ?_
      refine qv (fun w hS => (yMove rfl)) ?_
      refine qg rfl rfl rfl (fun g w hS => (yLdBA rfl Try.isAgg38 Try.sizeOf38 (hS.at _) rfl rfl)) (fun v109 g109 => ?_)
      refine qg rfl rfl rfl (fun g w hS => (yMove rfl)) (fun v110 g110 => ?_)
      refine qg rfl rfl rfl (fun g w hS => (yMove rfl)) (fun v111 g111 => ?_)
      refine qg rfl rfl rfl (fun g w hS => (yIxa (g110.1 g) hal (g111.1 g) Try.runUnderlying44 Try.sizeOf3 (by omega) (by omega))) (fun v112 g112 => ?_)
      refine qg rfl rfl rfl (fun g w hS => (yLd (g112.1 g) Try.isAgg3 ((flat_cells encI_len (row_at (hS.row (.slice al l.length capl)) hal (by omega)) hli).one))) (fun v113 g113 => ?_)
      refine qgc rfl rfl rfl Try.call29 (fun g => (.cons (g109.1 g) (.cons (g113.1 g) .nil))) (fun g w hS => c_has) (fun v114 g114 => ?_)
      refine qv (fun w hS => (yAnd rfl (fun hB => (g114.1 hB)) rfl)) ?_
      refine qv (fun w hS => (yMove rfl)) ?_
      refine qg rfl rfl rfl (fun g w hS => (yLdBA rfl Try.isAgg38 Try.sizeOf38 (hS.at _) rfl rfl)) (fun v117 g117 => ?_)
      refine qg rfl rfl rfl (fun g w hS => (yMove rfl)) (fun v118 g118 => ?_)
      refine qg rfl rfl rfl (fun g w hS => (yMove rfl)) (fun v119 g119 => ?_)
      refine qg rfl rfl rfl (fun g w hS => (yIxa (g118.1 g) hal (g119.1 g) Try.runUnderlying44 Try.sizeOf3 (by omega) (by omega))) (fun v120 g120 => ?_)
      refine qg rfl rfl rfl (fun g w hS => (yLd (g120.1 g) Try.isAgg3 ((flat_cells encI_len (row_at (hS.row (.slice al l.length capl)) hal (by omega)) hli).one))) (fun v121 g121 => ?_)
      refine qgc rfl rfl rfl Try.call29 (fun g => (.cons (g117.1 g) (.cons (g121.1 g) .nil))) (fun g w hS => c_has) (fun v122 g122 => ?_)
      refine qv (fun w hS => (yAnd rfl (fun hB => (g122.1 hB)) rfl)) ?_
      refine qv (fun w hS => (yMove rfl)) ?_
      refine qg rfl rfl rfl (fun g w hS => (yLdBA rfl Try.isAgg38 Try.sizeOf38 (hS.at _) rfl rfl)) (fun v125 g125 => ?_)
      refine qg rfl rfl rfl (fun g w hS => (yLdBA rfl Try.isAgg38 Try.sizeOf38 (hS.at _) rfl rfl)) (fun v126 g126 => ?_)
      refine qgc rfl rfl rfl Try.call30 (fun g => (.cons (g125.1 g) (.cons (g126.1 g) .nil))) (fun g w hS => c_within) (fun v127 g127 => ?_)
      refine qv (fun w hS => (yAnd rfl (fun hB => (g127.1 hB)) rfl)) ?_
      refine qv (fun w hS => (yMove rfl)) ?_
      refine qgc rfl rfl rfl Try.call23 (fun g => .nil) (fun g w hS => c_Awake) (fun v130 g130 => ?_)
      refine qv (fun w hS => (yAnd rfl (fun hB => (g130.1 hB)) rfl)) ?_
      refine qv (fun w hS => (yAsg rfl)) ?_
      clear hS; refine qnil (fun w hS => ?_)
      show Code.wp _ _ _ _ _
      have hA2 := (hA.resolve_left (fun h => c84 h.2))
      have hB2 := (hBB.resolve_left (fun h => hA2.1 (known_nil (by omega) h.1)))
      have hw := says_more (g := y) (t := x.start + (ni : Int)) (a := x.start + q1) (b := min 200000 (x.start + q1 + p2)) (by omega) hA2.2.1 hB2.2.1
      refine wp_ret ?_
      exact retV (res1 rfl (eqB (by rw [withinB_iff.2 hw.1, hA2.2.2, hB2.2.2]; simp [hA2.2.1, hB2.2.1]))) hS.ext
end Go.Proofs.Ytpgmehignepidaa
/- part RdF -/
namespace Go.Proofs.Ytpgmehignepidaa
open Go Bx
section
variable {H : Type} {enc : TypeId × Value → H} {w : World} {base : Nat} {spare : Nat → Bool} {held : Bool} {fuel : Nat} {cs : List Value} {x : DataW H × List MemPlace}
theorem rdF24 (h : DataW.trod enc Try.prog w base spare held fuel 24 cs = some x) : ∃ n c0 c1, cs = [c0, c1] ∧ (∃ y, DataW.trod enc Try.prog w base spare held n 3 [c0] = some y) ∧ (∃ y, DataW.trod enc Try.prog w base spare held n 22 [c1] = some y) := by
  have z3 : Try.prog.cellsOf 3 = 1 := by kernel_rfl
  have z22 : Try.prog.cellsOf 22 = 1 := by kernel_rfl
  obtain ⟨hl, n, hf⟩ := rd_fields Try.underlying24 h
  have hz : Try.prog.cellsOf 24 = 2 := by kernel_rfl
  rw [hz] at hl
  obtain ⟨c0, c1, rfl⟩ := two_of hl
  have f0 : ∃ y, DataW.trod enc Try.prog w base spare held n 3 ((List.drop 0 [c0, c1]).take (Try.prog.cellsOf 3)) = some y := hf 0 _ rfl
  rw [z3] at f0
  have f1 : ∃ y, DataW.trod enc Try.prog w base spare held n 22 ((List.drop 1 [c0, c1]).take (Try.prog.cellsOf 22)) = some y := hf 1 _ rfl
  rw [z22] at f1
  exact ⟨n, c0, c1, rfl, f0, f1⟩
theorem rdF34 (h : DataW.trod enc Try.prog w base spare held fuel 34 cs = some x) : ∃ n c0 c1 c2 c3 c4, cs = [c0, c1, c2, c3, c4] ∧ (∃ y, DataW.trod enc Try.prog w base spare held n 9 [c0] = some y) ∧ (∃ y, DataW.trod enc Try.prog w base spare held n 3 [c1] = some y) ∧ (∃ y, DataW.trod enc Try.prog w base spare held n 3 [c2] = some y) ∧ (∃ y, DataW.trod enc Try.prog w base spare held n 31 [c3] = some y) ∧ (∃ y, DataW.trod enc Try.prog w base spare held n 32 [c4] = some y) := by
  have z3 : Try.prog.cellsOf 3 = 1 := by kernel_rfl
  have z9 : Try.prog.cellsOf 9 = 1 := by kernel_rfl
  have z31 : Try.prog.cellsOf 31 = 1 := by kernel_rfl
  have z32 : Try.prog.cellsOf 32 = 1 := by kernel_rfl
  obtain ⟨hl, n, hf⟩ := rd_fields Try.underlying34 h
  have hz : Try.prog.cellsOf 34 = 5 := by kernel_rfl
  rw [hz] at hl
  obtain ⟨c0, c1, c2, c3, c4, rfl⟩ := five_of hl
  have f0 : ∃ y, DataW.trod enc Try.prog w base spare held n 9 ((List.drop 0 [c0, c1, c2, c3, c4]).take (Try.prog.cellsOf 9)) = some y := hf 0 _ rfl
  rw [z9] at f0
  have f1 : ∃ y, DataW.trod enc Try.prog w base spare held n 3 ((List.drop 1 [c0, c1, c2, c3, c4]).take (Try.prog.cellsOf 3)) = some y := hf 1 _ rfl
  rw [z3] at f1
  have f2 : ∃ y, DataW.trod enc Try.prog w base spare held n 3 ((List.drop 2 [c0, c1, c2, c3, c4]).take (Try.prog.cellsOf 3)) = some y := hf 2 _ rfl
  rw [z3] at f2
  have f3 : ∃ y, DataW.trod enc Try.prog w base spare held n 31 ((List.drop 3 [c0, c1, c2, c3, c4]).take (Try.prog.cellsOf 31)) = some y := hf 3 _ rfl
  rw [z31] at f3
  have f4 : ∃ y, DataW.trod enc Try.prog w base spare held n 32 ((List.drop 4 [c0, c1, c2, c3, c4]).take (Try.prog.cellsOf 32)) = some y := hf 4 _ rfl
  rw [z32] at f4
  exact ⟨n, c0, c1, c2, c3, c4, rfl, f0, f1, f2, f3, f4⟩
theorem rdF38 (h : DataW.trod enc Try.prog w base spare held fuel 38 cs = some x) : ∃ n c0 c1, cs = [c0, c1] ∧ (∃ y, DataW.trod enc Try.prog w base spare held n 3 [c0] = some y) ∧ (∃ y, DataW.trod enc Try.prog w base spare held n 3 [c1] = some y) := by
  have z3 : Try.prog.cellsOf 3 = 1 := by kernel_rfl
  obtain ⟨hl, n, hf⟩ := rd_fields Try.underlying38 h
  have hz : Try.prog.cellsOf 38 = 2 := by kernel_rfl
  rw [hz] at hl
  obtain ⟨c0, c1, rfl⟩ := two_of hl
  have f0 : ∃ y, DataW.trod enc Try.prog w base spare held n 3 ((List.drop 0 [c0, c1]).take (Try.prog.cellsOf 3)) = some y := hf 0 _ rfl
  rw [z3] at f0
  have f1 : ∃ y, DataW.trod enc Try.prog w base spare held n 3 ((List.drop 1 [c0, c1]).take (Try.prog.cellsOf 3)) = some y := hf 1 _ rfl
  rw [z3] at f1
  exact ⟨n, c0, c1, rfl, f0, f1⟩
theorem rdF46 (h : DataW.trod enc Try.prog w base spare held fuel 46 cs = some x) : ∃ n c0 c1 c2 c3 c4 c5, cs = [c0, c1, c2, c3, c4, c5] ∧ (∃ y, DataW.trod enc Try.prog w base spare held n 9 [c0] = some y) ∧ (∃ y, DataW.trod enc Try.prog w base spare held n 44 [c1] = some y) ∧ (∃ y, DataW.trod enc Try.prog w base spare held n 3 [c2] = some y) ∧ (∃ y, DataW.trod enc Try.prog w base spare held n 3 [c3] = some y) ∧ (∃ y, DataW.trod enc Try.prog w base spare held n 3 [c4] = some y) ∧ (∃ y, DataW.trod enc Try.prog w base spare held n 3 [c5] = some y) := by
  have z3 : Try.prog.cellsOf 3 = 1 := by kernel_rfl
  have z9 : Try.prog.cellsOf 9 = 1 := by kernel_rfl
  have z44 : Try.prog.cellsOf 44 = 1 := by kernel_rfl
  obtain ⟨hl, n, hf⟩ := rd_fields Try.underlying46 h
  have hz : Try.prog.cellsOf 46 = 6 := by kernel_rfl
  rw [hz] at hl
  obtain ⟨c0, c1, c2, c3, c4, c5, rfl⟩ := six_of hl
  have f0 : ∃ y, DataW.trod enc Try.prog w base spare held n 9 ((List.drop 0 [c0, c1, c2, c3, c4, c5]).take (Try.prog.cellsOf 9)) = some y := hf 0 _ rfl
  rw [z9] at f0
  have f1 : ∃ y, DataW.trod enc Try.prog w base spare held n 44 ((List.drop 1 [c0, c1, c2, c3, c4, c5]).take (Try.prog.cellsOf 44)) = some y := hf 1 _ rfl
  rw [z44] at f1
  have f2 : ∃ y, DataW.trod enc Try.prog w base spare held n 3 ((List.drop 2 [c0, c1, c2, c3, c4, c5]).take (Try.prog.cellsOf 3)) = some y := hf 2 _ rfl
  rw [z3] at f2
  have f3 : ∃ y, DataW.trod enc Try.prog w base spare held n 3 ((List.drop 3 [c0, c1, c2, c3, c4, c5]).take (Try.prog.cellsOf 3)) = some y := hf 3 _ rfl
  rw [z3] at f3
  have f4 : ∃ y, DataW.trod enc Try.prog w base spare held n 3 ((List.drop 4 [c0, c1, c2, c3, c4, c5]).take (Try.prog.cellsOf 3)) = some y := hf 4 _ rfl
  rw [z3] at f4
  have f5 : ∃ y, DataW.trod enc Try.prog w base spare held n 3 ((List.drop 5 [c0, c1, c2, c3, c4, c5]).take (Try.prog.cellsOf 3)) = some y := hf 5 _ rfl
  rw [z3] at f5
  exact ⟨n, c0, c1, c2, c3, c4, c5, rfl, f0, f1, f2, f3, f4, f5⟩
theorem rdF53 (h : DataW.trod enc Try.prog w base spare held fuel 53 cs = some x) : ∃ n c0 c1 c2 c3 c4 c5, cs = [c0, c1, c2, c3, c4, c5] ∧ (∃ y, DataW.trod enc Try.prog w base spare held n 3 [c0] = some y) ∧ (∃ y, DataW.trod enc Try.prog w base spare held n 3 [c1] = some y) ∧ (∃ y, DataW.trod enc Try.prog w base spare held n 42 [c2] = some y) ∧ (∃ y, DataW.trod enc Try.prog w base spare held n 51 [c3] = some y) ∧ (∃ y, DataW.trod enc Try.prog w base spare held n 51 [c4] = some y) ∧ (∃ y, DataW.trod enc Try.prog w base spare held n 42 [c5] = some y) := by
  have z3 : Try.prog.cellsOf 3 = 1 := by kernel_rfl
  have z42 : Try.prog.cellsOf 42 = 1 := by kernel_rfl
  have z51 : Try.prog.cellsOf 51 = 1 := by kernel_rfl
  obtain ⟨hl, n, hf⟩ := rd_fields Try.underlying53 h
  have hz : Try.prog.cellsOf 53 = 6 := by kernel_rfl
  rw [hz] at hl
  obtain ⟨c0, c1, c2, c3, c4, c5, rfl⟩ := six_of hl
  have f0 : ∃ y, DataW.trod enc Try.prog w base spare held n 3 ((List.drop 0 [c0, c1, c2, c3, c4, c5]).take (Try.prog.cellsOf 3)) = some y := hf 0 _ rfl
  rw [z3] at f0
  have f1 : ∃ y, DataW.trod enc Try.prog w base spare held n 3 ((List.drop 1 [c0, c1, c2, c3, c4, c5]).take (Try.prog.cellsOf 3)) = some y := hf 1 _ rfl
  rw [z3] at f1
  have f2 : ∃ y, DataW.trod enc Try.prog w base spare held n 42 ((List.drop 2 [c0, c1, c2, c3, c4, c5]).take (Try.prog.cellsOf 42)) = some y := hf 2 _ rfl
  rw [z42] at f2
  have f3 : ∃ y, DataW.trod enc Try.prog w base spare held n 51 ((List.drop 3 [c0, c1, c2, c3, c4, c5]).take (Try.prog.cellsOf 51)) = some y := hf 3 _ rfl
  rw [z51] at f3
  have f4 : ∃ y, DataW.trod enc Try.prog w base spare held n 51 ((List.drop 4 [c0, c1, c2, c3, c4, c5]).take (Try.prog.cellsOf 51)) = some y := hf 4 _ rfl
  rw [z51] at f4
  have f5 : ∃ y, DataW.trod enc Try.prog w base spare held n 42 ((List.drop 5 [c0, c1, c2, c3, c4, c5]).take (Try.prog.cellsOf 42)) = some y := hf 5 _ rfl
  rw [z42] at f5
  exact ⟨n, c0, c1, c2, c3, c4, c5, rfl, f0, f1, f2, f3, f4, f5⟩
theorem rdF54 (h : DataW.trod enc Try.prog w base spare held fuel 54 cs = some x) : ∃ n c0 c1 c2, cs = [c0, c1, c2] ∧ (∃ y, DataW.trod enc Try.prog w base spare held n 5 [c0] = some y) ∧ (∃ y, DataW.trod enc Try.prog w base spare held n 5 [c1] = some y) ∧ (∃ y, DataW.trod enc Try.prog w base spare held n 5 [c2] = some y) := by
  have z5 : Try.prog.cellsOf 5 = 1 := by kernel_rfl
  obtain ⟨hl, n, hf⟩ := rd_elems Try.underlying54 z5 h
  have hz : Try.prog.cellsOf 54 = 3 := by kernel_rfl
  rw [hz] at hl
  obtain ⟨c0, c1, c2, rfl⟩ := three_of hl
  have f0 : ∃ y, DataW.trod enc Try.prog w base spare held n 5 [c0] = some y := hf 0 (by omega)
  have f1 : ∃ y, DataW.trod enc Try.prog w base spare held n 5 [c1] = some y := hf 1 (by omega)
  have f2 : ∃ y, DataW.trod enc Try.prog w base spare held n 5 [c2] = some y := hf 2 (by omega)
  exact ⟨n, c0, c1, c2, rfl, f0, f1, f2⟩
theorem rdF58 (h : DataW.trod enc Try.prog w base spare held fuel 58 cs = some x) : ∃ n c0 c1 c2, cs = [c0, c1, c2] ∧ (∃ y, DataW.trod enc Try.prog w base spare held n 3 [c0] = some y) ∧ (∃ y, DataW.trod enc Try.prog w base spare held n 3 [c1] = some y) ∧ (∃ y, DataW.trod enc Try.prog w base spare held n 3 [c2] = some y) := by
  have z3 : Try.prog.cellsOf 3 = 1 := by kernel_rfl
  obtain ⟨hl, n, hf⟩ := rd_elems Try.underlying58 z3 h
  have hz : Try.prog.cellsOf 58 = 3 := by kernel_rfl
  rw [hz] at hl
  obtain ⟨c0, c1, c2, rfl⟩ := three_of hl
  have f0 : ∃ y, DataW.trod enc Try.prog w base spare held n 3 [c0] = some y := hf 0 (by omega)
  have f1 : ∃ y, DataW.trod enc Try.prog w base spare held n 3 [c1] = some y := hf 1 (by omega)
  have f2 : ∃ y, DataW.trod enc Try.prog w base spare held n 3 [c2] = some y := hf 2 (by omega)
  exact ⟨n, c0, c1, c2, rfl, f0, f1, f2⟩
theorem rdF68 (h : DataW.trod enc Try.prog w base spare held fuel 68 cs = some x) : ∃ n c0 c1 c2, cs = [c0, c1, c2] ∧ (∃ y, DataW.trod enc Try.prog w base spare held n 3 [c0] = some y) ∧ (∃ y, DataW.trod enc Try.prog w base spare held n 3 [c1] = some y) ∧ (∃ y, DataW.trod enc Try.prog w base spare held n 3 [c2] = some y) := by
  have z3 : Try.prog.cellsOf 3 = 1 := by kernel_rfl
  obtain ⟨hl, n, hf⟩ := rd_fields Try.underlying68 h
  have hz : Try.prog.cellsOf 68 = 3 := by kernel_rfl
  rw [hz] at hl
  obtain ⟨c0, c1, c2, rfl⟩ := three_of hl
  have f0 : ∃ y, DataW.trod enc Try.prog w base spare held n 3 ((List.drop 0 [c0, c1, c2]).take (Try.prog.cellsOf 3)) = some y := hf 0 _ rfl
  rw [z3] at f0
  have f1 : ∃ y, DataW.trod enc Try.prog w base spare held n 3 ((List.drop 1 [c0, c1, c2]).take (Try.prog.cellsOf 3)) = some y := hf 1 _ rfl
  rw [z3] at f1
  have f2 : ∃ y, DataW.trod enc Try.prog w base spare held n 3 ((List.drop 2 [c0, c1, c2]).take (Try.prog.cellsOf 3)) = some y := hf 2 _ rfl
  rw [z3] at f2
  exact ⟨n, c0, c1, c2, rfl, f0, f1, f2⟩
theorem rdF76 (h : DataW.trod enc Try.prog w base spare held fuel 76 cs = some x) : ∃ n c0 c1, cs = [c0, c1] ∧ (∃ y, DataW.trod enc Try.prog w base spare held n 5 [c0] = some y) ∧ (∃ y, DataW.trod enc Try.prog w base spare held n 5 [c1] = some y) := by
  have z5 : Try.prog.cellsOf 5 = 1 := by kernel_rfl
  obtain ⟨hl, n, hf⟩ := rd_elems Try.underlying76 z5 h
  have hz : Try.prog.cellsOf 76 = 2 := by kernel_rfl
  rw [hz] at hl
  obtain ⟨c0, c1, rfl⟩ := two_of hl
  have f0 : ∃ y, DataW.trod enc Try.prog w base spare held n 5 [c0] = some y := hf 0 (by omega)
  have f1 : ∃ y, DataW.trod enc Try.prog w base spare held n 5 [c1] = some y := hf 1 (by omega)
  exact ⟨n, c0, c1, rfl, f0, f1⟩
theorem rdF78 (h : DataW.trod enc Try.prog w base spare held fuel 78 cs = some x) : ∃ n c0 c1 c2, cs = [c0, c1, c2] ∧ (∃ y, DataW.trod enc Try.prog w base spare held n 3 [c0] = some y) ∧ (∃ y, DataW.trod enc Try.prog w base spare held n 38 [c1, c2] = some y) := by
  have z3 : Try.prog.cellsOf 3 = 1 := by kernel_rfl
  have z38 : Try.prog.cellsOf 38 = 2 := by kernel_rfl
  obtain ⟨hl, n, hf⟩ := rd_fields Try.underlying78 h
  have hz : Try.prog.cellsOf 78 = 3 := by kernel_rfl
  rw [hz] at hl
  obtain ⟨c0, c1, c2, rfl⟩ := three_of hl
  have f0 : ∃ y, DataW.trod enc Try.prog w base spare held n 3 ((List.drop 0 [c0, c1, c2]).take (Try.prog.cellsOf 3)) = some y := hf 0 _ rfl
  rw [z3] at f0
  have f1 : ∃ y, DataW.trod enc Try.prog w base spare held n 38 ((List.drop 1 [c0, c1, c2]).take (Try.prog.cellsOf 38)) = some y := hf 1 _ rfl
  rw [z38] at f1
  exact ⟨n, c0, c1, c2, rfl, f0, f1⟩
theorem rdF84 (h : DataW.trod enc Try.prog w base spare held fuel 84 cs = some x) : ∃ n c0 c1 c2 c3 c4, cs = [c0, c1, c2, c3, c4] ∧ (∃ y, DataW.trod enc Try.prog w base spare held n 68 [c0, c1, c2] = some y) ∧ (∃ y, DataW.trod enc Try.prog w base spare held n 5 [c3] = some y) ∧ (∃ y, DataW.trod enc Try.prog w base spare held n 5 [c4] = some y) := by
  have z5 : Try.prog.cellsOf 5 = 1 := by kernel_rfl
  have z68 : Try.prog.cellsOf 68 = 3 := by kernel_rfl
  obtain ⟨hl, n, hf⟩ := rd_fields Try.underlying84 h
  have hz : Try.prog.cellsOf 84 = 5 := by kernel_rfl
  rw [hz] at hl
  obtain ⟨c0, c1, c2, c3, c4, rfl⟩ := five_of hl
  have f0 : ∃ y, DataW.trod enc Try.prog w base spare held n 68 ((List.drop 0 [c0, c1, c2, c3, c4]).take (Try.prog.cellsOf 68)) = some y := hf 0 _ rfl
  rw [z68] at f0
  have f1 : ∃ y, DataW.trod enc Try.prog w base spare held n 5 ((List.drop 3 [c0, c1, c2, c3, c4]).take (Try.prog.cellsOf 5)) = some y := hf 1 _ rfl
  rw [z5] at f1
  have f2 : ∃ y, DataW.trod enc Try.prog w base spare held n 5 ((List.drop 4 [c0, c1, c2, c3, c4]).take (Try.prog.cellsOf 5)) = some y := hf 2 _ rfl
  rw [z5] at f2
  exact ⟨n, c0, c1, c2, c3, c4, rfl, f0, f1, f2⟩
theorem rdF86 (h : DataW.trod enc Try.prog w base spare held fuel 86 cs = some x) : ∃ n c0 c1, cs = [c0, c1] ∧ (∃ y, DataW.trod enc Try.prog w base spare held n 3 [c0] = some y) ∧ (∃ y, DataW.trod enc Try.prog w base spare held n 3 [c1] = some y) := by
  have z3 : Try.prog.cellsOf 3 = 1 := by kernel_rfl
  obtain ⟨hl, n, hf⟩ := rd_elems Try.underlying86 z3 h
  have hz : Try.prog.cellsOf 86 = 2 := by kernel_rfl
  rw [hz] at hl
  obtain ⟨c0, c1, rfl⟩ := two_of hl
  have f0 : ∃ y, DataW.trod enc Try.prog w base spare held n 3 [c0] = some y := hf 0 (by omega)
  have f1 : ∃ y, DataW.trod enc Try.prog w base spare held n 3 [c1] = some y := hf 1 (by omega)
  exact ⟨n, c0, c1, rfl, f0, f1⟩
theorem rdF103 (h : DataW.trod enc Try.prog w base spare held fuel 103 cs = some x) : ∃ n c0 c1, cs = [c0, c1] ∧ (∃ y, DataW.trod enc Try.prog w base spare held n 3 [c0] = some y) ∧ (∃ y, DataW.trod enc Try.prog w base spare held n 3 [c1] = some y) := by
  have z3 : Try.prog.cellsOf 3 = 1 := by kernel_rfl
  obtain ⟨hl, n, hf⟩ := rd_fields Try.underlying103 h
  have hz : Try.prog.cellsOf 103 = 2 := by kernel_rfl
  rw [hz] at hl
  obtain ⟨c0, c1, rfl⟩ := two_of hl
  have f0 : ∃ y, DataW.trod enc Try.prog w base spare held n 3 ((List.drop 0 [c0, c1]).take (Try.prog.cellsOf 3)) = some y := hf 0 _ rfl
  rw [z3] at f0
  have f1 : ∃ y, DataW.trod enc Try.prog w base spare held n 3 ((List.drop 1 [c0, c1]).take (Try.prog.cellsOf 3)) = some y := hf 1 _ rfl
  rw [z3] at f1
  exact ⟨n, c0, c1, rfl, f0, f1⟩
end
end Go.Proofs.Ytpgmehignepidaa
/- part Rd1 -/
namespace Go.Proofs.Ytpgmehignepidaa
open Go Bx
theorem rd_Ints : Rd Try.prog 44 (fun w cs (l : List Int) => ∃ v, cs = [v] ∧ Sl w 1 RInt v l) := rd_slice (rd_int Try.underlying3) (by kernel_rfl) (by decide) Try.underlying44
theorem rd_Span : Rd Try.prog 38 RSpan := by
  intro H enc w base spare held fuel cs x h
  obtain ⟨n, c0, c1, rfl, ⟨y0, f0⟩, ⟨y1, f1⟩⟩ := rdF38 h
  obtain ⟨a0, g0⟩ := (rd_int Try.underlying3) _ _ _ _ _ _ _ _ _ f0
  obtain ⟨a1, g1⟩ := (rd_int Try.underlying3) _ _ _ _ _ _ _ _ _ f1
  obtain ⟨e0, i0⟩ := g0; obtain ⟨e1, i1⟩ := g1; cases e0; cases e1; exact ⟨⟨a0, a1⟩, rfl, i0, i1⟩
theorem rd_Spans : Rd Try.prog 61 (fun w cs (l : List Span) => ∃ v, cs = [v] ∧ Sl w 2 RSpan v l) := rd_slice rd_Span (by kernel_rfl) (by decide) Try.underlying61
theorem rd_Reading : Rd Try.prog 103 RRead := by
  intro H enc w base spare held fuel cs x h
  obtain ⟨n, c0, c1, rfl, ⟨y0, f0⟩, ⟨y1, f1⟩⟩ := rdF103 h
  obtain ⟨a0, g0⟩ := (rd_int Try.underlying3) _ _ _ _ _ _ _ _ _ f0
  obtain ⟨a1, g1⟩ := (rd_int Try.underlying3) _ _ _ _ _ _ _ _ _ f1
  obtain ⟨e0, i0⟩ := g0; obtain ⟨e1, i1⟩ := g1; cases e0; cases e1; exact ⟨⟨a0, a1⟩, rfl, i0, i1⟩
theorem rd_Datum : Rd Try.prog 78 RDatum := by
  intro H enc w base spare held fuel cs x h
  obtain ⟨n, c0, c1, c2, rfl, ⟨y0, f0⟩, ⟨y1, f1⟩⟩ := rdF78 h
  obtain ⟨a0, g0⟩ := (rd_int Try.underlying3) _ _ _ _ _ _ _ _ _ f0
  obtain ⟨a1, g1⟩ := rd_Span _ _ _ _ _ _ _ _ _ f1
  obtain ⟨e0, i0⟩ := g0; obtain ⟨e1, i1, i2⟩ := g1; cases e0; cases e1; exact ⟨⟨a0, a1⟩, rfl, i0, i1, i2⟩
theorem rd_Datums : Rd Try.prog 31 (fun w cs (l : List Datum) => ∃ v, cs = [v] ∧ Sl w 3 RDatum v l) := rd_slice rd_Datum (by kernel_rfl) (by decide) Try.underlying31
theorem rd_Readings : Rd Try.prog 32 (fun w cs (l : List Reading) => ∃ v, cs = [v] ∧ Sl w 2 RRead v l) := rd_slice rd_Reading (by kernel_rfl) (by decide) Try.underlying32
theorem rd_Gauge : Rd Try.prog 34 RGauge := by
  intro H enc w base spare held fuel cs x h
  obtain ⟨n, c0, c1, c2, c3, c4, rfl, ⟨y0, f0⟩, ⟨y1, f1⟩, ⟨y2, f2⟩, ⟨y3, f3⟩, ⟨y4, f4⟩⟩ := rdF34 h
  obtain ⟨a0, g0⟩ := (rd_str Try.underlying9) _ _ _ _ _ _ _ _ _ f0
  obtain ⟨a1, g1⟩ := (rd_int Try.underlying3) _ _ _ _ _ _ _ _ _ f1
  obtain ⟨a2, g2⟩ := (rd_int Try.underlying3) _ _ _ _ _ _ _ _ _ f2
  obtain ⟨a3, g3⟩ := rd_Datums _ _ _ _ _ _ _ _ _ f3
  obtain ⟨a4, g4⟩ := rd_Readings _ _ _ _ _ _ _ _ _ f4
  obtain ⟨e0, i0⟩ := g0; obtain ⟨e1, i1⟩ := g1; obtain ⟨e2, i2⟩ := g2; obtain ⟨v3, e3, i3⟩ := g3; obtain ⟨v4, e4, i4⟩ := g4; cases e0; cases e1; cases e2; cases e3; cases e4; exact ⟨⟨a0, a1, a2, a3, a4⟩, _, _, rfl, i0, i1, i2, i3, i4⟩
theorem rd_Gauges : Rd Try.prog 66 (fun w cs (l : List Gauge) => ∃ v, cs = [v] ∧ Sl w 5 RGauge v l) := rd_slice rd_Gauge (by kernel_rfl) (by decide) Try.underlying66
theorem rd_Const : Rd Try.prog 46 RConst := by
  intro H enc w base spare held fuel cs x h
  obtain ⟨n, c0, c1, c2, c3, c4, c5, rfl, ⟨y0, f0⟩, ⟨y1, f1⟩, ⟨y2, f2⟩, ⟨y3, f3⟩, ⟨y4, f4⟩, ⟨y5, f5⟩⟩ := rdF46 h
  obtain ⟨a0, g0⟩ := (rd_str Try.underlying9) _ _ _ _ _ _ _ _ _ f0
  obtain ⟨a1, g1⟩ := rd_Ints _ _ _ _ _ _ _ _ _ f1
  obtain ⟨a2, g2⟩ := (rd_int Try.underlying3) _ _ _ _ _ _ _ _ _ f2
  obtain ⟨a3, g3⟩ := (rd_int Try.underlying3) _ _ _ _ _ _ _ _ _ f3
  obtain ⟨a4, g4⟩ := (rd_int Try.underlying3) _ _ _ _ _ _ _ _ _ f4
  obtain ⟨a5, g5⟩ := (rd_int Try.underlying3) _ _ _ _ _ _ _ _ _ f5
  obtain ⟨e0, i0⟩ := g0; obtain ⟨v1, e1, i1⟩ := g1; obtain ⟨e2, i2⟩ := g2; obtain ⟨e3, i3⟩ := g3; obtain ⟨e4, i4⟩ := g4; obtain ⟨e5, i5⟩ := g5; cases e0; cases e1; cases e2; cases e3; cases e4; cases e5; exact ⟨⟨a0, a1, a2, a3, a4, a5⟩, _, rfl, i0, i1, i2, i3, i4, i5⟩
theorem rd_Consts : Rd Try.prog 22 (fun w cs (l : List Const) => ∃ v, cs = [v] ∧ Sl w 6 RConst v l) := rd_slice rd_Const (by kernel_rfl) (by decide) Try.underlying22
theorem rd_Table : Rd Try.prog 24 RTable := by
  intro H enc w base spare held fuel cs x h
  obtain ⟨n, c0, c1, rfl, ⟨y0, f0⟩, ⟨y1, f1⟩⟩ := rdF24 h
  obtain ⟨a0, g0⟩ := (rd_int Try.underlying3) _ _ _ _ _ _ _ _ _ f0
  obtain ⟨a1, g1⟩ := rd_Consts _ _ _ _ _ _ _ _ _ f1
  obtain ⟨e0, i0⟩ := g0; obtain ⟨v1, e1, i1⟩ := g1; cases e0; cases e1; exact ⟨⟨a0, a1⟩, _, rfl, i0, i1⟩
theorem rd_I : Rd Try.prog 3 RInt := (rd_int Try.underlying3)
theorem rd_S : Rd Try.prog 9 RStr := (rd_str Try.underlying9)
theorem rd_I8s : Rd Try.prog 42 (fun w cs (l : List Int) => ∃ v, cs = [v] ∧ Sl w 1 RI8 v l) := rd_slice (rd_i8 Try.underlying47) (by kernel_rfl) (by decide) Try.underlying42
theorem rd_U8s : Rd Try.prog 51 (fun w cs (l : List Int) => ∃ v, cs = [v] ∧ Sl w 1 RU8 v l) := rd_slice (rd_u8 Try.underlying5) (by kernel_rfl) (by decide) Try.underlying51
theorem rd_A3 : Rd Try.prog 58 RI3 := by
  intro H enc w base spare held fuel cs x h
  obtain ⟨n, c0, c1, c2, rfl, ⟨y0, f0⟩, ⟨y1, f1⟩, ⟨y2, f2⟩⟩ := rdF58 h
  obtain ⟨a0, g0⟩ := (rd_int Try.underlying3) _ _ _ _ _ _ _ _ _ f0
  obtain ⟨a1, g1⟩ := (rd_int Try.underlying3) _ _ _ _ _ _ _ _ _ f1
  obtain ⟨a2, g2⟩ := (rd_int Try.underlying3) _ _ _ _ _ _ _ _ _ f2
  obtain ⟨e0, i0⟩ := g0; obtain ⟨e1, i1⟩ := g1; obtain ⟨e2, i2⟩ := g2; cases e0; cases e1; cases e2; exact ⟨(a0, a1, a2), rfl, i0, i1, i2⟩
theorem rd_A2 : Rd Try.prog 86 RI2 := by
  intro H enc w base spare held fuel cs x h
  obtain ⟨n, c0, c1, rfl, ⟨y0, f0⟩, ⟨y1, f1⟩⟩ := rdF86 h
  obtain ⟨a0, g0⟩ := (rd_int Try.underlying3) _ _ _ _ _ _ _ _ _ f0
  obtain ⟨a1, g1⟩ := (rd_int Try.underlying3) _ _ _ _ _ _ _ _ _ f1
  obtain ⟨e0, i0⟩ := g0; obtain ⟨e1, i1⟩ := g1; cases e0; cases e1; exact ⟨(a0, a1), rfl, i0, i1⟩
theorem rd_B3 : Rd Try.prog 54 RU3 := by
  intro H enc w base spare held fuel cs x h
  obtain ⟨n, c0, c1, c2, rfl, ⟨y0, f0⟩, ⟨y1, f1⟩, ⟨y2, f2⟩⟩ := rdF54 h
  obtain ⟨a0, g0⟩ := (rd_u8 Try.underlying5) _ _ _ _ _ _ _ _ _ f0
  obtain ⟨a1, g1⟩ := (rd_u8 Try.underlying5) _ _ _ _ _ _ _ _ _ f1
  obtain ⟨a2, g2⟩ := (rd_u8 Try.underlying5) _ _ _ _ _ _ _ _ _ f2
  obtain ⟨e0, i0⟩ := g0; obtain ⟨e1, i1⟩ := g1; obtain ⟨e2, i2⟩ := g2; cases e0; cases e1; cases e2; exact ⟨(a0, a1, a2), rfl, i0, i1, i2⟩
theorem rd_B2 : Rd Try.prog 76 RU2 := by
  intro H enc w base spare held fuel cs x h
  obtain ⟨n, c0, c1, rfl, ⟨y0, f0⟩, ⟨y1, f1⟩⟩ := rdF76 h
  obtain ⟨a0, g0⟩ := (rd_u8 Try.underlying5) _ _ _ _ _ _ _ _ _ f0
  obtain ⟨a1, g1⟩ := (rd_u8 Try.underlying5) _ _ _ _ _ _ _ _ _ f1
  obtain ⟨e0, i0⟩ := g0; obtain ⟨e1, i1⟩ := g1; cases e0; cases e1; exact ⟨(a0, a1), rfl, i0, i1⟩
theorem rd_At : Rd Try.prog 68 RAt := by
  intro H enc w base spare held fuel cs x h
  obtain ⟨n, c0, c1, c2, rfl, ⟨y0, f0⟩, ⟨y1, f1⟩, ⟨y2, f2⟩⟩ := rdF68 h
  obtain ⟨a0, g0⟩ := (rd_int Try.underlying3) _ _ _ _ _ _ _ _ _ f0
  obtain ⟨a1, g1⟩ := (rd_int Try.underlying3) _ _ _ _ _ _ _ _ _ f1
  obtain ⟨a2, g2⟩ := (rd_int Try.underlying3) _ _ _ _ _ _ _ _ _ f2
  obtain ⟨e0, i0⟩ := g0; obtain ⟨e1, i1⟩ := g1; obtain ⟨e2, i2⟩ := g2; cases e0; cases e1; cases e2; exact ⟨⟨a0, a1, a2⟩, rfl, i0, i1, i2⟩
theorem rd_Two : Rd Try.prog 84 RTwo := by
  intro H enc w base spare held fuel cs x h
  obtain ⟨n, c0, c1, c2, c3, c4, rfl, ⟨y0, f0⟩, ⟨y1, f1⟩, ⟨y2, f2⟩⟩ := rdF84 h
  obtain ⟨a0, g0⟩ := rd_At _ _ _ _ _ _ _ _ _ f0
  obtain ⟨a1, g1⟩ := (rd_u8 Try.underlying5) _ _ _ _ _ _ _ _ _ f1
  obtain ⟨a2, g2⟩ := (rd_u8 Try.underlying5) _ _ _ _ _ _ _ _ _ f2
  obtain ⟨e0, i0, j0, k0⟩ := g0; obtain ⟨e1, i1⟩ := g1; obtain ⟨e2, i2⟩ := g2; cases e0; cases e1; cases e2; exact ⟨⟨a0, a1, a2⟩, rfl, i0, j0, k0, i1, i2⟩
theorem rd_Truth : Rd Try.prog 53 RTruth := by
  intro H enc w base spare held fuel cs x h
  obtain ⟨n, c0, c1, c2, c3, c4, c5, rfl, ⟨y0, f0⟩, ⟨y1, f1⟩, ⟨y2, f2⟩, ⟨y3, f3⟩, ⟨y4, f4⟩, ⟨y5, f5⟩⟩ := rdF53 h
  obtain ⟨a0, g0⟩ := (rd_int Try.underlying3) _ _ _ _ _ _ _ _ _ f0
  obtain ⟨a1, g1⟩ := (rd_int Try.underlying3) _ _ _ _ _ _ _ _ _ f1
  obtain ⟨a2, g2⟩ := rd_I8s _ _ _ _ _ _ _ _ _ f2
  obtain ⟨a3, g3⟩ := rd_U8s _ _ _ _ _ _ _ _ _ f3
  obtain ⟨a4, g4⟩ := rd_U8s _ _ _ _ _ _ _ _ _ f4
  obtain ⟨a5, g5⟩ := rd_I8s _ _ _ _ _ _ _ _ _ f5
  obtain ⟨e0, i0⟩ := g0; obtain ⟨e1, i1⟩ := g1; obtain ⟨v2, e2, i2⟩ := g2; obtain ⟨v3, e3, i3⟩ := g3; obtain ⟨v4, e4, i4⟩ := g4; obtain ⟨v5, e5, i5⟩ := g5; cases e0; cases e1; cases e2; cases e3; cases e4; cases e5; exact ⟨⟨a0, a1, a2, a3, a4, a5⟩, _, _, _, _, rfl, i0, i1, i2, i3, i4, i5⟩
end Go.Proofs.Ytpgmehignepidaa
