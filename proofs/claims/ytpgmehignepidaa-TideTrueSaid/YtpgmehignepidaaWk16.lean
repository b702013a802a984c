/- Walks, part Wk16. -/
import Derived.Test.YtpgmehignepidaaWk15
set_option linter.all false
namespace Go.Proofs.Ytpgmehignepidaa
open Go Bx
/-- barrage/tide.High closure 1 -/
theorem c_High1 {x y : Span} {w0 : World} : CV Try.prog 94 #[.agg (spanC x).toArray, .agg (spanC y).toArray] w0 (.int .i64 (cmpI x.lo y.lo)) := by
  refine enter Try.func94 rfl Try.ntmps94 rfl ?_
  have hS := St.start w0
  refine seq ?_
  refine region ?_
  refine sbox hS rfl rfl ?_; clear hS; intro b2 w hS
  refine sbox hS rfl rfl ?_; clear hS; intro b3 w hS
  refine sv (yAsg rfl) ?_
  refine nil ?_
  show Code.wp _ _ _ _ _
  refine seq ?_
  refine region ?_
  refine sv (fa38_0 rfl) ?_
  refine sv (yLdB rfl Try.isAgg3 (hS.at _) rfl) ?_
  refine sv (fa38_0 rfl) ?_
  refine sv (yLdB rfl Try.isAgg3 (hS.at _) rfl) ?_
  refine scall Try.call95 (.cons rfl (.cons rfl .nil)) c_Compare ?_
  rintro _ w ⟨rfl, hE⟩; replace hS := hS.step hE; clear hE
  refine sv (yAsg rfl) ?_
  refine nil ?_
  show Code.wp _ _ _ _ _
  refine wp_ret ?_
  exact retV (res1 rfl rfl) hS.ext
/-- slices.MaxFunc   barrage/api.Span,barrage/api.Span  -/
theorem c_MaxSpan {l : List Span} {v : Value} {w0 : World} (hl : Sl w0 2 RSpan v l) (hne : l ≠ []) : CE Try.prog 93 #[v, .func (.func 94) #[] #[]] w0 (fun v w' => ∃ m, v = .agg (spanC m).toArray ∧ m ∈ l ∧ (∀ s ∈ l, s.lo ≤ m.lo) ∧ Ext w0 w') := by
  obtain ⟨a, cap, rfl, hcap, hmx, hel⟩ := hl
  have hpos : 0 < l.length := List.length_pos_iff.2 hne
  refine enter Try.func93 rfl Try.ntmps93 rfl ?_
  have hS := St.start w0
  refine seq ?_
  refine region ?_
  refine salloc hS Try.zeroValue38 rfl ?_; clear hS; intro b4 w hS
  refine nil ?_
  show Code.wp _ _ _ _ _
  refine seq ?_
  refine seq ?_
  refine region ?_
  refine sv (yMove rfl) ?_
  refine sv (yLen rfl Try.underlying61) ?_
  refine sv (yLss rfl rfl) ?_
  refine nil ?_
  show Code.wp _ _ _ _ _
  refine cond rfl (fun c9 => ?_) (fun c9 => ?_)
  ·
    simp only [Bool.and_eq_true, Bool.or_eq_true, Bool.and_eq_false_iff, Bool.or_eq_false_iff, decide_eq_true_eq, decide_eq_false_iff_not, Bool.not_eq_true, Bool.not_eq_false, Bool.not_not, Bool.not_eq_eq_eq_not, Bool.not_true, Bool.not_false, Bool.false_eq_true, Bool.true_eq_false, ne_eq, Decidable.not_not, not_false_eq_true, not_true_eq_false] at c9
    omega
  ·
    simp only [Bool.and_eq_true, Bool.or_eq_true, Bool.and_eq_false_iff, Bool.or_eq_false_iff, decide_eq_true_eq, decide_eq_false_iff_not, Bool.not_eq_true, Bool.not_eq_false, Bool.not_not, Bool.not_eq_eq_eq_not, Bool.not_true, Bool.not_false, Bool.false_eq_true, Bool.true_eq_false, ne_eq, Decidable.not_not, not_false_eq_true, not_true_eq_false] at c9
    refine skip ?_
    show Code.wp _ _ _ _ _
    refine seq ?_
    refine region ?_
    obtain ⟨x, hx0, hd0⟩ := drop_of (l := l) (k := 0) (by omega)
    obtain ⟨b0, o0, cs0, ha0, hlen0, hcs0, hR0⟩ := hel (0) (by omega)
    obtain rfl : x = l[0] := (List.getElem?_eq_some_iff.1 hx0).2.symm
    generalize l[0] = x at hx0 hd0 hR0
    obtain ⟨rfl, _, _⟩ := hR0
    refine sv (yMove rfl) ?_
    refine sv (yIxa rfl ha0 rfl Try.runUnderlying61 Try.sizeOf38 (by omega) (by omega)) ?_
    refine sv (yLdA rfl Try.isAgg38 Try.sizeOf38 (hcs0.ext hS.ext) rfl) ?_
    refine salloc hS Try.zeroValue38 rfl ?_; clear hS; intro b5 w hS
    refine sst hS rfl rfl Try.sizeOf38 rfl rfl rfl rfl ?_; clear hS; intro w hS
    refine nil ?_
    show Code.wp _ _ _ _ _
    refine seq ?_
    refine seq ?_
    refine region ?_
    refine sv (yAsg rfl) ?_
    refine nil ?_
    show Code.wp _ _ _ _ _
    refine block ?_
    refine loop (fun f w zz => ∃ (k : Nat) (m : Span), f 0 = .slice a l.length cap ∧ f 1 = .func (.func 94) #[] #[] ∧ f 4 = .pointer (some ⟨b4, 0, none⟩) ∧ f 5 = .pointer (some ⟨b5, 0, none⟩) ∧ f 6 = .int .i64 (k : Int) ∧ St w0 w [blk b5 (spanC m) 38, blk b4 [.int .i64 0, .int .i64 0] 38] ∧ (k ≤ l.length) ∧ (m ∈ l) ∧ (∀ i, i < k → ∀ s, l[i]? = some s → s.lo ≤ m.lo) ∧ zz = l.length - k) _ ⟨_, rfl, 1, x, rfl, rfl, rfl, rfl, rfl, hS, (by omega), (List.mem_of_getElem? hx0), (fun i hi s hs => by obtain rfl : i = 0 := (by omega); rw [hx0] at hs; obtain rfl := Option.some.inj hs; exact Int.le_refl _), rfl⟩ ?_
    clear hS
    rintro f w _ ⟨k, m, h0, h1, h4, h5, h6, hS, hk, hm, hI, rfl⟩
    refine seq ?_
    refine seq ?_
    refine region ?_
    refine sv (yMove h6) ?_
    refine sv (yMove h0) ?_
    refine sv (yLen rfl Try.underlying61) ?_
    refine sv (yLss rfl rfl) ?_
    refine nil ?_
    show Code.wp _ _ _ _ _
    refine cond rfl (fun c17 => ?_) (fun c17 => ?_)
    ·
      simp only [Bool.and_eq_true, Bool.or_eq_true, Bool.and_eq_false_iff, Bool.or_eq_false_iff, decide_eq_true_eq, decide_eq_false_iff_not, Bool.not_eq_true, Bool.not_eq_false, Bool.not_not, Bool.not_eq_eq_eq_not, Bool.not_true, Bool.not_false, Bool.false_eq_true, Bool.true_eq_false, ne_eq, Decidable.not_not, not_false_eq_true, not_true_eq_false] at c17
      obtain ⟨y, hxq, hdq⟩ := drop_of (l := l) (k := k) (by omega)
      obtain ⟨bq, oq, csq, haq, hlenq, hcsq, hRq⟩ := hel (k) (by omega)
      obtain rfl : y = l[k] := (List.getElem?_eq_some_iff.1 hxq).2.symm
      generalize l[k] = y at hxq hdq hRq
      obtain ⟨rfl, _, _⟩ := hRq
      refine skip ?_
      show Code.wp _ _ _ _ _
      refine seq ?_
      refine block ?_
      refine seq ?_
      refine region_draw mixed (by kernel_rfl) hS ?_
      refine qv (fun w hS => (yMove h1)) ?_
      refine qv (fun w hS => (yMove h0)) ?_
      refine qv (fun w hS => (yMove h6)) ?_
      refine qv (fun w hS => (yIxa rfl haq rfl Try.runUnderlying61 Try.sizeOf38 (by omega) (by omega))) ?_
      refine qv (fun w hS => (yLdA rfl Try.isAgg38 Try.sizeOf38 (hcsq.ext hS.ext) rfl)) ?_
      refine qv (fun w hS => (yLdBA h5 Try.isAgg38 Try.sizeOf38 (hS.at _) rfl rfl)) ?_
      refine qcallf rfl Try.call94 (.cons rfl (.cons rfl .nil)) (fun w hS => c_High1) ?_
      refine qv (fun w hS => (yGtr rfl rfl)) ?_
      clear hS; refine qnil (fun w hS => ?_)
      show Code.wp _ _ _ _ _
      refine cond rfl (fun c27 => ?_) (fun c27 => ?_)
      ·
        simp only [Bool.and_eq_true, Bool.or_eq_true, Bool.and_eq_false_iff, Bool.or_eq_false_iff, decide_eq_true_eq, decide_eq_false_iff_not, Bool.not_eq_true, Bool.not_eq_false, Bool.not_not, Bool.not_eq_eq_eq_not, Bool.not_true, Bool.not_false, Bool.false_eq_true, Bool.true_eq_false, ne_eq, Decidable.not_not, not_false_eq_true, not_true_eq_false, cmpI_gt] at c27
        refine region ?_
        refine sv (yMove h0) ?_
        refine sv (yMove h6) ?_
        refine sv (yIxa rfl haq rfl Try.runUnderlying61 Try.sizeOf38 (by omega) (by omega)) ?_
        refine sv (yLdA rfl Try.isAgg38 Try.sizeOf38 (hcsq.ext hS.ext) rfl) ?_
        refine sst hS h5 rfl Try.sizeOf38 rfl rfl rfl rfl ?_; clear hS; intro w hS
        refine nil ?_
        show Code.wp _ _ _ _ _
        refine region ?_
        refine sv (yMove h6) ?_
        refine sv (yAdd rfl rfl ⟨by omega, by omega⟩) ?_
        refine sv (yAsg rfl) ?_
        refine nil ?_
        exact ⟨_, _, rfl, ⟨k + 1, y, h0, h1, h4, h5, rfl, hS, (by omega), (List.mem_of_getElem? hxq), (snoc (fun i hi s hs => by have := hI i hi s hs; omega) (fun s hs => by rw [hxq] at hs; obtain rfl := Option.some.inj hs; exact Int.le_refl _)), rfl⟩, by omega⟩
      ·
        simp only [Bool.and_eq_true, Bool.or_eq_true, Bool.and_eq_false_iff, Bool.or_eq_false_iff, decide_eq_true_eq, decide_eq_false_iff_not, Bool.not_eq_true, Bool.not_eq_false, Bool.not_not, Bool.not_eq_eq_eq_not, Bool.not_true, Bool.not_false, Bool.false_eq_true, Bool.true_eq_false, ne_eq, Decidable.not_not, not_false_eq_true, not_true_eq_false, cmpI_gt] at c27
        refine skip ?_
        show Code.wp _ _ _ _ _
        refine region ?_
        refine sv (yMove h6) ?_
        refine sv (yAdd rfl rfl ⟨by omega, by omega⟩) ?_
        refine sv (yAsg rfl) ?_
        refine nil ?_
        exact ⟨_, _, rfl, ⟨k + 1, m, h0, h1, h4, h5, rfl, hS, (by omega), (hm), (snoc hI (fun s hs => by rw [hxq] at hs; obtain rfl := Option.some.inj hs; omega)), rfl⟩, by omega⟩
    ·
      simp only [Bool.and_eq_true, Bool.or_eq_true, Bool.and_eq_false_iff, Bool.or_eq_false_iff, decide_eq_true_eq, decide_eq_false_iff_not, Bool.not_eq_true, Bool.not_eq_false, Bool.not_not, Bool.not_eq_eq_eq_not, Bool.not_true, Bool.not_false, Bool.false_eq_true, Bool.true_eq_false, ne_eq, Decidable.not_not, not_false_eq_true, not_true_eq_false] at c17
      obtain rfl : k = l.length := by omega
      refine exit ?_
      show Code.wp _ _ _ _ _
      refine seq ?_
      refine region ?_
      refine sv (yLdBA h5 Try.isAgg38 Try.sizeOf38 (hS.at _) rfl rfl) ?_
      refine sst hS h4 rfl Try.sizeOf38 rfl rfl rfl rfl ?_; clear hS; intro w hS
      refine nil ?_
      show Code.wp _ _ _ _ _
      refine wp_ret ?_
      refine retQ (resV1 rfl (rc h4 Try.isAgg38 Try.sizeOf38 (hS.at _) rfl rfl)) ?_
      exact ⟨m, rfl, hm, fun s hs => by obtain ⟨i, hi⟩ := List.getElem?_of_mem hs; exact hI i (List.getElem?_eq_some_iff.1 hi).1 s hi, hS.ext⟩
set_option maxHeartbeats 1000000 in
/-- barrage/tide.High -/
theorem c_High {t : Table} {cs : List Value} {a n : Int} {w0 : World} (ht : RTable w0 cs t) (hia : I64 a) (hin : I64 n) : CE Try.prog 46 #[.agg cs.toArray, .int .i64 a, .int .i64 n] w0 (fun v w' => ∃ sv, v = .tuple #[sv, .int .i64 (levelsE t a n)] ∧ St w0 w' [rowI sv 3 1 (highF t a n).length ((highF t a n).flatMap encI)]) := by
  obtain ⟨cv, rfl, hmean, hsl⟩ := id ht
  obtain ⟨aa, cap, rfl, hcap, hmx, hel⟩ := id hsl
  refine enter Try.func46 rfl Try.ntmps46 rfl ?_
  have hS := St.start w0
  refine seq ?_
  refine region ?_
  refine sbox hS rfl rfl ?_; clear hS; intro b3 w hS
  refine sv (yAsg rfl) ?_
  refine sv (yAsg rfl) ?_
  refine nil ?_
  show Code.wp _ _ _ _ _
  refine seq ?_
  refine region ?_
  refine sv (yLdBA rfl Try.isAgg24 Try.sizeOf24 (hS.at _) rfl rfl) ?_
  refine sv (yMove rfl) ?_
  refine sv (yMove rfl) ?_
  refine scall Try.call34 (.cons rfl (.cons rfl (.cons rfl .nil))) (c_Levels (ht.ext hS.ext)) ?_
  rintro _ w ⟨sv, rfl, hM⟩; replace hS := hS.call1 hM; clear hM; obtain ⟨al, capl, rfl⟩ := row_shape (hS.row sv)
  refine sv (yMove rfl) ?_
  refine sv (yExt rfl rfl) ?_
  refine sv (yExt rfl rfl) ?_
  refine sv (yAsg rfl) ?_
  refine sv (yAsg rfl) ?_
  refine nil ?_
  show Code.wp _ _ _ _ _
  refine seq ?_
  refine seq ?_
  refine region ?_
  refine sv (yMove rfl) ?_
  refine sv (yNeq rfl rfl) ?_
  refine sv (yMove rfl) ?_
  refine sg rfl rfl rfl (fun g => (yMove rfl)) (fun v24 g24 => ?_)
  refine sg rfl rfl rfl (fun g => (yEql (g24.1 g) rfl)) (fun v25 g25 => ?_)
  refine sv (yOr rfl rfl (fun hB => (g25.1 hB))) ?_
  refine nil ?_
  show Code.wp _ _ _ _ _
  refine cond rfl (fun c26 => ?_) (fun c26 => ?_)
  ·
    simp only [Bool.and_eq_true, Bool.or_eq_true, Bool.and_eq_false_iff, Bool.or_eq_false_iff, decide_eq_true_eq, decide_eq_false_iff_not, Bool.not_eq_true, Bool.not_eq_false, Bool.not_not, Bool.not_eq_eq_eq_not, Bool.not_true, Bool.not_false, Bool.false_eq_true, Bool.true_eq_false, ne_eq, Decidable.not_not, not_false_eq_true, not_true_eq_false] at c26
    refine seq ?_
    refine region ?_
    refine sv (yMove rfl) ?_
    refine sv (yAsg rfl) ?_
    refine sv (yAsg rfl) ?_
    refine nil ?_
    show Code.wp _ _ _ _ _
    refine wp_ret (thenR ?_)
    refine retQ (res2 rfl rfl rfl) ?_
    refine ⟨.slice none 0 0, rfl, ?_⟩
    have hnil : highF t a n = [] := by
      unfold highF
      by_cases hz : levelsE t a n = 0
      · rw [if_neg (fun h => h hz)]
        have : levelsF t a n = [] := by
          rw [levelsF_good hz]
          rcases c26 with h | h
          · exact absurd hz h
          · rw [h]; rfl
        rw [this]; rfl
      · rw [if_pos hz]
    rw [hnil]
    exact (hS.sub (List.nil_sublist _)).nilrow 3 1
  ·
    simp only [Bool.and_eq_true, Bool.or_eq_true, Bool.and_eq_false_iff, Bool.or_eq_false_iff, decide_eq_true_eq, decide_eq_false_iff_not, Bool.not_eq_true, Bool.not_eq_false, Bool.not_not, Bool.not_eq_eq_eq_not, Bool.not_true, Bool.not_false, Bool.false_eq_true, Bool.true_eq_false, ne_eq, Decidable.not_not, not_false_eq_true, not_true_eq_false] at c26
    obtain ⟨hz, hn0⟩ := c26
    obtain ⟨_, hz2, hz3⟩ := levelsE_zero hz
    have hok2 := levelsF_ok (t := t) (a := a) (n := n)
    have hlen : (levelsF t a n).length = n.toNat := by rw [levelsF_good hz, lvlsL_len]
    generalize hll : levelsF t a n = l at *
    have hne : l ≠ [] := fun h => by rw [h] at hlen; have : n.toNat = 0 := hlen.symm; omega
    refine skip ?_
    show Code.wp _ _ _ _ _
    refine seq ?_
    refine region ?_
    refine sv (yMove rfl) ?_
    refine scall Try.call93 (.cons rfl (.cons rfl .nil)) (c_MaxSpan (sl_spans (hS.row (.slice al l.length capl)) rfl hok2) hne) ?_
    rintro _ w ⟨M, rfl, hM1, hM2, hE⟩; replace hS := hS.step hE; clear hE
    refine sv (yFld rfl Try.underlying38 rfl Try.isAgg3 rfl) ?_
    refine sv (yAsg rfl) ?_
    refine nil ?_
    show Code.wp _ _ _ _ _
    refine seq ?_
    refine region ?_
    refine sv (yAsg rfl) ?_
    refine nil ?_
    show Code.wp _ _ _ _ _
    refine seq ?_
    refine seq ?_
    refine region ?_
    refine sv (yMove rfl) ?_
    refine sv (yLen rfl Try.underlying61) ?_
    refine sv (yMove rfl) ?_
    refine nil ?_
    show Code.wp _ _ _ _ _
    refine block ?_
    refine loop (fun f w zz => ∃ (k : Nat) (v : Value), f 1 = .int .i64 a ∧ f 10 = .int .i64 M.lo ∧ f 11 = v ∧ f 31 = .slice al l.length capl ∧ f 32 = .int .i64 (l.length : Int) ∧ f 33 = .int .i64 (k : Int) ∧ St w0 w [rowI v 3 1 (highsK l a (k)).length ((highsK l a (k)).flatMap encI), rowI (.slice al l.length capl) 38 2 l.length (l.flatMap spanC)] ∧ (k ≤ l.length) ∧ zz = l.length - k) _ ⟨_, rfl, 0, _, rfl, rfl, rfl, rfl, rfl, rfl, ((hS.nilrow 3 1).sub (.cons_cons _ (.cons_cons _ (List.nil_sublist _)))), (Nat.zero_le _), rfl⟩ ?_
    clear hS
    rintro f w _ ⟨k, v, h1, h10, h11, h31, h32, h33, hS, hk, rfl⟩
    refine seq ?_
    refine region ?_
    refine sv (yLss h33 h32) ?_
    refine nil ?_
    show Code.wp _ _ _ _ _
    refine seq ?_
    refine cond rfl (fun c34 => ?_) (fun c34 => ?_)
    ·
      simp only [Bool.and_eq_true, Bool.or_eq_true, Bool.and_eq_false_iff, Bool.or_eq_false_iff, decide_eq_true_eq, decide_eq_false_iff_not, Bool.not_eq_true, Bool.not_eq_false, Bool.not_not, Bool.not_eq_eq_eq_not, Bool.not_true, Bool.not_false, Bool.false_eq_true, Bool.true_eq_false, ne_eq, Decidable.not_not, not_false_eq_true, not_true_eq_false] at c34
      obtain ⟨s, hx, hd⟩ := drop_of (l := l) (k := k) (by omega)
      obtain ⟨g, hag, hcg⟩ := row_get (hS.row (.slice al l.length capl)) (by omega)
      have hcs := flat_cells spanC_len hcg hx
      have hab := hz3 (by omega)
      refine skip ?_
      show Code.wp _ _ _ _ _
      refine seq ?_
      refine block ?_
      refine seq ?_
      refine region ?_
      refine sv (yMove h33) ?_
      refine sv (yIxa h31 hag h33 Try.runUnderlying61 Try.sizeOf38 (by omega) (by omega)) ?_
      refine sv (yLdA rfl Try.isAgg38 Try.sizeOf38 hcs rfl) ?_
      refine salloc hS Try.zeroValue38 rfl ?_; clear hS; intro b13 w hS
      refine sv (yAsg rfl) ?_
      refine sst hS rfl rfl Try.sizeOf38 rfl rfl rfl rfl ?_; clear hS; intro w hS
      refine nil ?_
      show Code.wp _ _ _ _ _
      refine seq ?_
      refine region ?_
      refine sv (fa38_1 rfl) ?_
      refine sv (yLdB rfl Try.isAgg3 (hS.at _) rfl) ?_
      refine sv (yMove h10) ?_
      refine sv (yGeq rfl rfl) ?_
      refine nil ?_
      show Code.wp _ _ _ _ _
      refine cond rfl (fun c41 => ?_) (fun c41 => ?_)
      ·
        simp only [Bool.and_eq_true, Bool.or_eq_true, Bool.and_eq_false_iff, Bool.or_eq_false_iff, decide_eq_true_eq, decide_eq_false_iff_not, Bool.not_eq_true, Bool.not_eq_false, Bool.not_not, Bool.not_eq_eq_eq_not, Bool.not_true, Bool.not_false, Bool.false_eq_true, Bool.true_eq_false, ne_eq, Decidable.not_not, not_false_eq_true, not_true_eq_false] at c41
        have hcan : canB l k = true := by rw [canB_max hM1 hM2 hx]; exact decide_eq_true c41
        have hhl := highsK_len l a k
        refine region ?_
        refine sv (yMove h11) ?_
        refine sv (yMove h1) ?_
        refine sv (yMove rfl) ?_
        refine sv (yAdd rfl rfl ⟨by omega, by omega⟩) ?_
        refine sbslice hS Try.underlying44 Try.sizeOf3 rfl Try.zeroValue3 rfl (.cons rfl rfl .nil) rfl ?_; clear hS; intro b46 w hS
        refine sapp (bytes := 8) (size := 1) (v := v) (m := 1) hS rfl rfl Try.underlying44 ti3 rfl rfl rfl rfl (by decide) (blk_cells (hS.at _)) rfl rfl (by omega) (by omega) ?_; clear hS; intro v47 w hS
        refine sv (yAsg rfl) ?_
        refine nil ?_
        show Code.wp _ _ _ _ _
        refine region ?_
        refine sv (yAdd h33 rfl ⟨by omega, by omega⟩) ?_
        refine sv (yMove rfl) ?_
        refine nil ?_
        exact ⟨_, _, rfl, ⟨k + 1, _, h1, h10, rfl, h31, h32, rfl, (by rw [highsK_in hcan, List.flatMap_append, List.length_append]; exact hS.sub (.cons _ (.cons _ (List.Sublist.refl _)))), (by omega), rfl⟩, by omega⟩
      ·
        simp only [Bool.and_eq_true, Bool.or_eq_true, Bool.and_eq_false_iff, Bool.or_eq_false_iff, decide_eq_true_eq, decide_eq_false_iff_not, Bool.not_eq_true, Bool.not_eq_false, Bool.not_not, Bool.not_eq_eq_eq_not, Bool.not_true, Bool.not_false, Bool.false_eq_true, Bool.true_eq_false, ne_eq, Decidable.not_not, not_false_eq_true, not_true_eq_false] at c41
        have hcan : canB l k = false := by rw [canB_max hM1 hM2 hx]; exact decide_eq_false c41
        refine skip ?_
        show Code.wp _ _ _ _ _
        refine region ?_
        refine sv (yAdd h33 rfl ⟨by omega, by omega⟩) ?_
        refine sv (yMove rfl) ?_
        refine nil ?_
        exact ⟨_, _, rfl, ⟨k + 1, v, h1, h10, h11, h31, h32, rfl, (by rw [highsK_out hcan]; exact hS.sub (.cons _ (List.Sublist.refl _))), (by omega), rfl⟩, by omega⟩
    ·
      simp only [Bool.and_eq_true, Bool.or_eq_true, Bool.and_eq_false_iff, Bool.or_eq_false_iff, decide_eq_true_eq, decide_eq_false_iff_not, Bool.not_eq_true, Bool.not_eq_false, Bool.not_not, Bool.not_eq_eq_eq_not, Bool.not_true, Bool.not_false, Bool.false_eq_true, Bool.true_eq_false, ne_eq, Decidable.not_not, not_false_eq_true, not_true_eq_false] at c34
      obtain rfl : k = l.length := by omega
      refine exit ?_
      show Code.wp _ _ _ _ _
      refine seq ?_
      refine region ?_
      refine sv (yMove h11) ?_
      refine sv (yAsg rfl) ?_
      refine sv (yAsg rfl) ?_
      refine nil ?_
      show Code.wp _ _ _ _ _
      refine wp_ret ?_
      refine retQ (res2 rfl rfl rfl) ?_
      refine ⟨v, by rw [hz]; rfl, ?_⟩
      unfold highF
      rw [if_neg (fun h => h hz), hll]
      exact hS.sub (.cons_cons _ (List.nil_sublist _))
set_option maxHeartbeats 1000000 in
/-- barrage/barrageref01.High -/
theorem c_rHigh {t : Table} {cs : List Value} {a n : Int} {w0 : World} (ht : RTable w0 cs t) (hia : I64 a) (hin : I64 n) : CE Try.prog 47 #[.agg cs.toArray, .int .i64 a, .int .i64 n] w0 (fun v w' => ∃ sv, v = .tuple #[sv, .int .i64 (levelsE t a n)] ∧ St w0 w' [rowI sv 3 1 (highF t a n).length ((highF t a n).flatMap encI)]) := by
  obtain ⟨cv, rfl, hmean, hsl⟩ := id ht
  obtain ⟨aa, cap, rfl, hcap, hmx, hel⟩ := id hsl
  refine enter Try.func47 rfl Try.ntmps47 rfl ?_
  have hS := St.start w0
  refine seq ?_
  refine region ?_
  refine sbox hS rfl rfl ?_; clear hS; intro b3 w hS
  refine sv (yAsg rfl) ?_
  refine sv (yAsg rfl) ?_
  refine nil ?_
  show Code.wp _ _ _ _ _
  refine seq ?_
  refine region ?_
  refine sv (yLdBA rfl Try.isAgg24 Try.sizeOf24 (hS.at _) rfl rfl) ?_
  refine sv (yMove rfl) ?_
  refine sv (yMove rfl) ?_
  refine scall Try.call35 (.cons rfl (.cons rfl (.cons rfl .nil))) (c_rLevels (ht.ext hS.ext) hia hin) ?_
  rintro _ w ⟨sv, rfl, hM⟩; replace hS := hS.call1 hM; clear hM; obtain ⟨al, capl, rfl⟩ := row_shape (hS.row sv)
  refine sv (yMove rfl) ?_
  refine sv (yExt rfl rfl) ?_
  refine sv (yExt rfl rfl) ?_
  refine sv (yAsg rfl) ?_
  refine sv (yAsg rfl) ?_
  refine nil ?_
  show Code.wp _ _ _ _ _
  refine seq ?_
  refine seq ?_
  refine region ?_
  refine sv (yMove rfl) ?_
  refine sv (yNeq rfl rfl) ?_
  refine nil ?_
  show Code.wp _ _ _ _ _
  refine cond rfl (fun c22 => ?_) (fun c22 => ?_)
  ·
    simp only [Bool.and_eq_true, Bool.or_eq_true, Bool.and_eq_false_iff, Bool.or_eq_false_iff, decide_eq_true_eq, decide_eq_false_iff_not, Bool.not_eq_true, Bool.not_eq_false, Bool.not_not, Bool.not_eq_eq_eq_not, Bool.not_true, Bool.not_false, Bool.false_eq_true, Bool.true_eq_false, ne_eq, Decidable.not_not, not_false_eq_true, not_true_eq_false] at c22
    refine seq ?_
    refine region ?_
    refine sv (yMove rfl) ?_
    refine sv (yAsg rfl) ?_
    refine sv (yAsg rfl) ?_
    refine nil ?_
    show Code.wp _ _ _ _ _
    refine wp_ret (thenR ?_)
    refine retQ (res2 rfl rfl rfl) ?_
    refine ⟨.slice none 0 0, rfl, ?_⟩
    have hnil : highF t a n = [] := by
      unfold highF
      by_cases hz : levelsE t a n = 0
      · rw [if_neg (fun h => h hz)]
        have : levelsF t a n = [] := by
          rw [levelsF_good hz]
          rcases (Or.inl c22 : levelsE t a n ≠ 0 ∨ n = 0) with h | h
          · exact absurd hz h
          · rw [h]; rfl
        rw [this]; rfl
      · rw [if_pos hz]
    rw [hnil]
    exact (hS.sub (List.nil_sublist _)).nilrow 3 1
  ·
    simp only [Bool.and_eq_true, Bool.or_eq_true, Bool.and_eq_false_iff, Bool.or_eq_false_iff, decide_eq_true_eq, decide_eq_false_iff_not, Bool.not_eq_true, Bool.not_eq_false, Bool.not_not, Bool.not_eq_eq_eq_not, Bool.not_true, Bool.not_false, Bool.false_eq_true, Bool.true_eq_false, ne_eq, Decidable.not_not, not_false_eq_true, not_true_eq_false] at c22
    have hz := c22
    obtain ⟨_, hz2, hz3⟩ := levelsE_zero hz
    have hok2 := levelsF_ok (t := t) (a := a) (n := n)
    have hlen : (levelsF t a n).length = n.toNat := by rw [levelsF_good hz, lvlsL_len]
    generalize hll : levelsF t a n = l at *
    refine skip ?_
    show Code.wp _ _ _ _ _
    refine seq ?_
    refine region ?_
    refine sv (yAsg rfl) ?_
    refine nil ?_
    show Code.wp _ _ _ _ _
    refine seq ?_
    refine seq ?_
    refine region ?_
    refine sv (yAsg rfl) ?_
    refine nil ?_
    show Code.wp _ _ _ _ _
    refine block ?_
    refine loop (fun f w zz => ∃ (k : Nat) (v : Value), f 1 = .int .i64 a ∧ f 8 = .slice al l.length capl ∧ f 10 = v ∧ f 11 = .int .i64 (k : Int) ∧ St w0 w [rowI v 3 1 (highsK l a (k)).length ((highsK l a (k)).flatMap encI), rowI (.slice al l.length capl) 38 2 l.length (l.flatMap spanC)] ∧ (k ≤ l.length) ∧ zz = l.length - k) _ ⟨_, rfl, 0, _, rfl, rfl, rfl, rfl, ((hS.nilrow 3 1).sub (.cons_cons _ (.cons_cons _ (List.nil_sublist _)))), (Nat.zero_le _), rfl⟩ ?_
    clear hS
    rintro f w _ ⟨k, v, h1, h8, h10, h11, hS, hk, rfl⟩
    refine seq ?_
    refine seq ?_
    refine region ?_
    refine sv (yMove h11) ?_
    refine sv (yMove h8) ?_
    refine sv (yLen rfl Try.underlying61) ?_
    refine sv (yLss rfl rfl) ?_
    refine nil ?_
    show Code.wp _ _ _ _ _
    refine cond rfl (fun c27 => ?_) (fun c27 => ?_)
    ·
      simp only [Bool.and_eq_true, Bool.or_eq_true, Bool.and_eq_false_iff, Bool.or_eq_false_iff, decide_eq_true_eq, decide_eq_false_iff_not, Bool.not_eq_true, Bool.not_eq_false, Bool.not_not, Bool.not_eq_eq_eq_not, Bool.not_true, Bool.not_false, Bool.false_eq_true, Bool.true_eq_false, ne_eq, Decidable.not_not, not_false_eq_true, not_true_eq_false] at c27
      obtain ⟨s, hx, hd⟩ := drop_of (l := l) (k := k) (by omega)
      obtain ⟨g, hag, hcg⟩ := row_get (hS.row (.slice al l.length capl)) (by omega)
      have hcs := flat_cells spanC_len hcg hx
      have hab := hz3 (by omega)
      refine skip ?_
      show Code.wp _ _ _ _ _
      refine seq ?_
      refine block ?_
      refine seq ?_
      refine region ?_
      refine sv (yAsg rfl) ?_
      refine nil ?_
      show Code.wp _ _ _ _ _
      refine seq ?_
      refine seq ?_
      refine region ?_
      refine sv (yAsg rfl) ?_
      refine nil ?_
      show Code.wp _ _ _ _ _
      refine block ?_
      refine loop (fun f w zz => ∃ (j : Nat), f 1 = .int .i64 a ∧ f 8 = .slice al l.length capl ∧ f 10 = v ∧ f 11 = .int .i64 (k : Int) ∧ f 12 = .bool (allK l s.hi j) ∧ f 13 = .int .i64 (j : Int) ∧ St w0 w [rowI v 3 1 (highsK l a (k)).length ((highsK l a (k)).flatMap encI), rowI (.slice al l.length capl) 38 2 l.length (l.flatMap spanC)] ∧ (j ≤ l.length) ∧ zz = l.length - j) _ ⟨_, rfl, 0, h1, h8, h10, h11, rfl, rfl, hS, (Nat.zero_le _), rfl⟩ ?_
      clear hS
      rintro f w _ ⟨j, h1, h8, h10, h11, h12, h13, hS, hj, rfl⟩
      refine seq ?_
      refine seq ?_
      refine region ?_
      refine sv (yMove h13) ?_
      refine sv (yMove h8) ?_
      refine sv (yLen rfl Try.underlying61) ?_
      refine sv (yLss rfl rfl) ?_
      refine nil ?_
      show Code.wp _ _ _ _ _
      refine cond rfl (fun c33 => ?_) (fun c33 => ?_)
      ·
        simp only [Bool.and_eq_true, Bool.or_eq_true, Bool.and_eq_false_iff, Bool.or_eq_false_iff, decide_eq_true_eq, decide_eq_false_iff_not, Bool.not_eq_true, Bool.not_eq_false, Bool.not_not, Bool.not_eq_eq_eq_not, Bool.not_true, Bool.not_false, Bool.false_eq_true, Bool.true_eq_false, ne_eq, Decidable.not_not, not_false_eq_true, not_true_eq_false] at c33
        obtain ⟨u, hxq, hdq⟩ := drop_of (l := l) (k := j) (by omega)
        obtain ⟨gq, hagq, hcgq⟩ := row_get (hS.row (.slice al l.length capl)) (by omega)
        have hcsq := flat_cells spanC_len hcgq hxq
        obtain ⟨gk, hagk, hcgk⟩ := row_get (hS.row (.slice al l.length capl)) (by omega)
        have hcsk := flat_cells spanC_len hcgk hx
        refine skip ?_
        show Code.wp _ _ _ _ _
        refine seq ?_
        refine block ?_
        refine region_draw mixed (by kernel_rfl) hS ?_
        refine qv (fun w hS => (yMove h12)) ?_
        refine qv (fun w hS => (yMove rfl)) ?_
        refine qg rfl rfl rfl (fun g w hS => (yMove h8)) (fun v38 g38 => ?_)
        refine qg rfl rfl rfl (fun g w hS => (yMove h11)) (fun v39 g39 => ?_)
        refine qg rfl rfl rfl (fun g w hS => (yIxa (g38.1 g) hagk (g39.1 g) Try.runUnderlying61 Try.sizeOf38 (by omega) (by omega))) (fun v40 g40 => ?_)
        refine qg rfl rfl rfl (fun g w hS => (fa38_1 (g40.1 g))) (fun v41 g41 => ?_)
        refine qg rfl rfl rfl (fun g w hS => (yLd (g41.1 g) Try.isAgg3 ((flat_cells spanC_len (row_at (hS.row (.slice al l.length capl)) hagk (by omega)) hx).at (j := 1) rfl))) (fun v42 g42 => ?_)
        refine qg rfl rfl rfl (fun g w hS => (yMove h8)) (fun v43 g43 => ?_)
        refine qg rfl rfl rfl (fun g w hS => (yMove h13)) (fun v44 g44 => ?_)
        refine qg rfl rfl rfl (fun g w hS => (yIxa (g43.1 g) hagq (g44.1 g) Try.runUnderlying61 Try.sizeOf38 (by omega) (by omega))) (fun v45 g45 => ?_)
        refine qg rfl rfl rfl (fun g w hS => (fa38_0 (g45.1 g))) (fun v46 g46 => ?_)
        refine qg rfl rfl rfl (fun g w hS => (yLd (g46.1 g) Try.isAgg3 ((flat_cells spanC_len (row_at (hS.row (.slice al l.length capl)) hagq (by omega)) hxq).one))) (fun v47 g47 => ?_)
        refine qg rfl rfl rfl (fun g w hS => (yGeq (g42.1 g) (g47.1 g))) (fun v48 g48 => ?_)
        refine qv (fun w hS => (yAnd rfl (fun hB => (g48.1 hB)) rfl)) ?_
        refine qv (fun w hS => (yAsg rfl)) ?_
        clear hS; refine qnil (fun w hS => ?_)
        show Code.wp _ _ _ _ _
        refine region ?_
        refine sv (yMove h13) ?_
        refine sv (yAdd rfl rfl ⟨by omega, by omega⟩) ?_
        refine sv (yAsg rfl) ?_
        refine nil ?_
        exact ⟨_, _, rfl, ⟨j + 1, h1, h8, h10, h11, (by rw [allK_succ hxq]; exact rfl), rfl, hS, (by omega), rfl⟩, by omega⟩
      ·
        simp only [Bool.and_eq_true, Bool.or_eq_true, Bool.and_eq_false_iff, Bool.or_eq_false_iff, decide_eq_true_eq, decide_eq_false_iff_not, Bool.not_eq_true, Bool.not_eq_false, Bool.not_not, Bool.not_eq_eq_eq_not, Bool.not_true, Bool.not_false, Bool.false_eq_true, Bool.true_eq_false, ne_eq, Decidable.not_not, not_false_eq_true, not_true_eq_false] at c33
        obtain rfl : j = l.length := by omega
        rw [allK_all hx] at h12
        refine exit ?_
        show Code.wp _ _ _ _ _
        refine seq ?_
        refine region ?_
        refine sv (yMove h12) ?_
        refine nil ?_
        show Code.wp _ _ _ _ _
        refine cond rfl (fun c50 => ?_) (fun c50 => ?_)
        ·
          have hcan : canB l k = true := c50
          have hhl := highsK_len l a k
          refine region ?_
          refine sv (yMove h10) ?_
          refine sv (yMove h1) ?_
          refine sv (yMove h11) ?_
          refine sv (yAdd rfl rfl ⟨by omega, by omega⟩) ?_
          refine sbslice hS Try.underlying44 Try.sizeOf3 rfl Try.zeroValue3 rfl (.cons rfl rfl .nil) rfl ?_; clear hS; intro b55 w hS
          refine sapp (bytes := 8) (size := 1) (v := v) (m := 1) hS rfl rfl Try.underlying44 ti3 rfl rfl rfl rfl (by decide) (blk_cells (hS.at _)) rfl rfl (by omega) (by omega) ?_; clear hS; intro v56 w hS
          refine sv (yAsg rfl) ?_
          refine nil ?_
          show Code.wp _ _ _ _ _
          refine region ?_
          refine sv (yMove h11) ?_
          refine sv (yAdd rfl rfl ⟨by omega, by omega⟩) ?_
          refine sv (yAsg rfl) ?_
          refine nil ?_
          exact ⟨_, _, rfl, ⟨k + 1, _, h1, h8, rfl, rfl, (by rw [highsK_in hcan, List.flatMap_append, List.length_append]; exact hS.sub (.cons _ (List.Sublist.refl _))), (by omega), rfl⟩, by omega⟩
        ·
          have hcan : canB l k = false := by simpa using c50
          refine skip ?_
          show Code.wp _ _ _ _ _
          refine region ?_
          refine sv (yMove h11) ?_
          refine sv (yAdd rfl rfl ⟨by omega, by omega⟩) ?_
          refine sv (yAsg rfl) ?_
          refine nil ?_
          exact ⟨_, _, rfl, ⟨k + 1, v, h1, h8, h10, rfl, (by rw [highsK_out hcan]; exact hS), (by omega), rfl⟩, by omega⟩
    ·
      simp only [Bool.and_eq_true, Bool.or_eq_true, Bool.and_eq_false_iff, Bool.or_eq_false_iff, decide_eq_true_eq, decide_eq_false_iff_not, Bool.not_eq_true, Bool.not_eq_false, Bool.not_not, Bool.not_eq_eq_eq_not, Bool.not_true, Bool.not_false, Bool.false_eq_true, Bool.true_eq_false, ne_eq, Decidable.not_not, not_false_eq_true, not_true_eq_false] at c27
      obtain rfl : k = l.length := by omega
      refine exit ?_
      show Code.wp _ _ _ _ _
      refine seq ?_
      refine region ?_
      refine sv (yMove h10) ?_
      refine sv (yAsg rfl) ?_
      refine sv (yAsg rfl) ?_
      refine nil ?_
      show Code.wp _ _ _ _ _
      refine wp_ret ?_
      refine retQ (res2 rfl rfl rfl) ?_
      refine ⟨v, by rw [hz]; rfl, ?_⟩
      unfold highF
      rw [if_neg (fun h => h hz), hll]
      exact hS.sub (.cons_cons _ (List.nil_sublist _))
end Go.Proofs.Ytpgmehignepidaa
