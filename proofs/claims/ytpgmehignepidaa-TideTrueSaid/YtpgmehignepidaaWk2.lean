/- Walks, part Wk2. -/
import Derived.Test.YtpgmehignepidaaWk1
set_option linter.all false
namespace Go.Proofs.Ytpgmehignepidaa
open Go Bx
/-- barrage/barrageref01.tick -/
theorem c_tick {a : Int} {w0 : World} : CV Try.prog 67 #[.int .i64 a] w0 (.bool (inB a 0 200000)) := by
  refine enter Try.func67 rfl Try.ntmps67 rfl ?_
  have hS := St.start w0
  refine seq ?_
  refine region ?_
  refine sv (yAsg rfl) ?_
  refine nil ?_
  show Code.wp _ _ _ _ _
  refine seq ?_
  refine region ?_
  refine sv (yMove rfl) ?_
  refine scall Try.call63 (.cons rfl (.cons rfl (.cons rfl .nil))) c_in ?_
  rintro _ w ⟨rfl, hE⟩; replace hS := hS.step hE; clear hE
  refine sv (yAsg rfl) ?_
  refine nil ?_
  show Code.wp _ _ _ _ _
  refine wp_ret ?_
  exact retV (res1 rfl rfl) hS.ext
/-- barrage/barrageref01.Name -/
theorem c_rName {s : ByteArray} {w0 : World} (hs : s.size ≤ 9223372036854775807) : CV Try.prog 22 #[.string s] w0 (.bool (isName s)) := by
  refine enter Try.func22 rfl Try.ntmps22 rfl ?_
  have hS := St.start w0
  refine seq ?_
  refine region ?_
  refine sv (yAsg rfl) ?_
  refine nil ?_
  show Code.wp _ _ _ _ _
  refine seq ?_
  refine seq ?_
  refine region ?_
  refine sv (yMove rfl) ?_
  refine sv (yLenS rfl Try.underlying9) ?_
  refine scall Try.call63 (.cons rfl (.cons rfl (.cons rfl .nil))) c_in ?_
  rintro _ w ⟨rfl, hE⟩; replace hS := hS.step hE; clear hE
  refine sv (yNot rfl) ?_
  refine nil ?_
  show Code.wp _ _ _ _ _
  refine cond rfl (fun c9 => ?_) (fun c9 => ?_)
  ·
    simp only [Bool.and_eq_true, Bool.or_eq_true, Bool.and_eq_false_iff, Bool.or_eq_false_iff, decide_eq_true_eq, decide_eq_false_iff_not, Bool.not_eq_true, Bool.not_eq_false, Bool.not_not, Bool.not_eq_eq_eq_not, Bool.not_true, Bool.not_false, Bool.false_eq_true, Bool.true_eq_false, ne_eq, Decidable.not_not, not_false_eq_true, not_true_eq_false, inB] at c9
    refine seq ?_
    refine region ?_
    refine sv (yAsg rfl) ?_
    refine nil ?_
    show Code.wp _ _ _ _ _
    refine wp_ret (thenR ?_)
    exact retV (res1 rfl (eqB (isName_size s (by omega)))) hS.ext
  ·
    simp only [Bool.and_eq_true, Bool.or_eq_true, Bool.and_eq_false_iff, Bool.or_eq_false_iff, decide_eq_true_eq, decide_eq_false_iff_not, Bool.not_eq_true, Bool.not_eq_false, Bool.not_not, Bool.not_eq_eq_eq_not, Bool.not_true, Bool.not_false, Bool.false_eq_true, Bool.true_eq_false, ne_eq, Decidable.not_not, not_false_eq_true, not_true_eq_false, inB] at c9
    refine skip ?_
    show Code.wp _ _ _ _ _
    refine seq ?_
    refine seq ?_
    refine region ?_
    refine sv (yAsg rfl) ?_
    refine nil ?_
    show Code.wp _ _ _ _ _
    refine block ?_
    refine loop (fun f w m => ∃ (k : Nat), f 0 = .string s ∧ f 3 = .int .i64 (k : Int) ∧ St w0 w [] ∧ (k ≤ s.size) ∧ (∀ i, i < k → okAt s i) ∧ m = s.size - k) _ ⟨_, rfl, 0, rfl, rfl, hS, (Nat.zero_le _), (fun i hi => absurd hi (Nat.not_lt_zero i)), rfl⟩ ?_
    clear hS
    rintro f w _ ⟨k, h0, h3, hS, hk, hP, rfl⟩
    refine seq ?_
    refine seq ?_
    refine region ?_
    refine sv (yMove h3) ?_
    refine sv (yMove h0) ?_
    refine sv (yLenS rfl Try.underlying9) ?_
    refine sv (yLss rfl rfl) ?_
    refine nil ?_
    show Code.wp _ _ _ _ _
    refine cond rfl (fun c13 => ?_) (fun c13 => ?_)
    ·
      simp only [Bool.and_eq_true, Bool.or_eq_true, Bool.and_eq_false_iff, Bool.or_eq_false_iff, decide_eq_true_eq, decide_eq_false_iff_not, Bool.not_eq_true, Bool.not_eq_false, Bool.not_not, Bool.not_eq_eq_eq_not, Bool.not_true, Bool.not_false, Bool.false_eq_true, Bool.true_eq_false, ne_eq, Decidable.not_not, not_false_eq_true, not_true_eq_false] at c13
      refine skip ?_
      show Code.wp _ _ _ _ _
      refine seq ?_
      refine block ?_
      refine seq ?_
      refine region ?_
      refine sv (yMove h0) ?_
      refine sv (yMove h3) ?_
      refine sv (yIxS rfl rfl Try.underlying9 (getElem?_pos s k (by omega))) ?_
      refine sv (yAsg rfl) ?_
      refine nil ?_
      show Code.wp _ _ _ _ _
      refine seq ?_
      refine region ?_
      refine sv (yMove rfl) ?_
      refine sv (yGeq rfl rfl) ?_
      refine sv (yMove rfl) ?_
      refine sg rfl rfl rfl (fun g => (yMove rfl)) (fun v22 g22 => ?_)
      refine sg rfl rfl rfl (fun g => (yLeq (g22.1 g) rfl)) (fun v23 g23 => ?_)
      refine sv (yAnd rfl (fun hB => (g23.1 hB)) rfl) ?_
      refine sv (yAsg rfl) ?_
      refine nil ?_
      show Code.wp _ _ _ _ _
      refine seq ?_
      refine region ?_
      refine sv (yMove rfl) ?_
      refine sv (yNot rfl) ?_
      refine sv (yMove rfl) ?_
      refine sg rfl rfl rfl (fun g => (yMove h3)) (fun v28 g28 => ?_)
      refine sg rfl rfl rfl (fun g => (yEql (g28.1 g) rfl)) (fun v29 g29 => ?_)
      refine sg rfl rfl rfl (fun g => (yMove (g29.1 g))) (fun v30 g30 => ?_)
      refine sgg rfl rfl g30 (fun g => (yMove rfl)) (fun v31 g31 => ?_)
      refine sgg rfl rfl g30 (fun g => (yNeq (g31.1 g) rfl)) (fun v32 g32 => ?_)
      refine sgg rfl rfl g30 (fun g => (yMove (g32.1 g))) (fun v33 g33 => ?_)
      refine sgg rfl rfl g33 (fun g => (yMove rfl)) (fun v34 g34 => ?_)
      refine sgg rfl rfl g33 (fun g => (yLss (g34.1 g) rfl)) (fun v35 g35 => ?_)
      refine sgg rfl rfl g33 (fun g => (yMove (g35.1 g))) (fun v36 g36 => ?_)
      refine sgg rfl rfl g36 (fun g => (yMove rfl)) (fun v37 g37 => ?_)
      refine sgg rfl rfl g36 (fun g => (yGtr (g37.1 g) rfl)) (fun v38 g38 => ?_)
      refine sgg rfl rfl g33 (fun g => (yOr (g36.1 g) rfl (fun hB => (g38.1 ⟨g, hB⟩)))) (fun v39 g39 => ?_)
      refine sgg rfl rfl g30 (fun g => (yAnd (g33.1 g) (fun hB => (g39.1 ⟨g, hB⟩)) rfl)) (fun v40 g40 => ?_)
      refine sg rfl rfl rfl (fun g => (yOr (g30.1 g) rfl (fun hB => (g40.1 ⟨g, hB⟩)))) (fun v41 g41 => ?_)
      refine sv (yAnd rfl (fun hB => (g41.1 hB)) rfl) ?_
      refine nil ?_
      show Code.wp _ _ _ _ _
      refine cond rfl (fun c42 => ?_) (fun c42 => ?_)
      ·
        simp only [Bool.and_eq_true, Bool.or_eq_true, Bool.and_eq_false_iff, Bool.or_eq_false_iff, decide_eq_true_eq, decide_eq_false_iff_not, Bool.not_eq_true, Bool.not_eq_false, Bool.not_not, Bool.not_eq_eq_eq_not, Bool.not_true, Bool.not_false, Bool.false_eq_true, Bool.true_eq_false, ne_eq, Decidable.not_not, not_false_eq_true, not_true_eq_false] at c42
        refine seq ?_
        refine region ?_
        refine sv (yAsg rfl) ?_
        refine nil ?_
        show Code.wp _ _ _ _ _
        refine wp_ret (blockR (thenR (thenR (blockR (thenR ?_)))))
        exact retV (res1 rfl (eqB (isName_bad s k (by omega) (fun h => by have := (okAt_of s k (by omega)).1 h; omega)))) hS.ext
      ·
        simp only [Bool.and_eq_true, Bool.or_eq_true, Bool.and_eq_false_iff, Bool.or_eq_false_iff, decide_eq_true_eq, decide_eq_false_iff_not, Bool.not_eq_true, Bool.not_eq_false, Bool.not_not, Bool.not_eq_eq_eq_not, Bool.not_true, Bool.not_false, Bool.false_eq_true, Bool.true_eq_false, ne_eq, Decidable.not_not, not_false_eq_true, not_true_eq_false] at c42
        refine skip ?_
        show Code.wp _ _ _ _ _
        refine region ?_
        refine sv (yMove h3) ?_
        refine sv (yAdd rfl rfl ⟨by omega, by omega⟩) ?_
        refine sv (yAsg rfl) ?_
        refine nil ?_
        exact ⟨_, _, rfl, ⟨k + 1, h0, rfl, hS, (by omega), (snoc hP ((okAt_of s k (by omega)).2 (by omega))), rfl⟩, by omega⟩
    ·
      simp only [Bool.and_eq_true, Bool.or_eq_true, Bool.and_eq_false_iff, Bool.or_eq_false_iff, decide_eq_true_eq, decide_eq_false_iff_not, Bool.not_eq_true, Bool.not_eq_false, Bool.not_not, Bool.not_eq_eq_eq_not, Bool.not_true, Bool.not_false, Bool.false_eq_true, Bool.true_eq_false, ne_eq, Decidable.not_not, not_false_eq_true, not_true_eq_false] at c13
      refine exit ?_
      show Code.wp _ _ _ _ _
      refine seq ?_
      refine region ?_
      refine sv (yAsg rfl) ?_
      refine nil ?_
      show Code.wp _ _ _ _ _
      refine wp_ret ?_
      exact retV (res1 rfl (eqB (isName_good s (by omega) (by omega) (fun i hi => hP i (by omega))))) hS.ext
set_option maxHeartbeats 1000000 in
/-- barrage/barrageref01.constituent -/
theorem c_rConst {t : Table} {cs0 : List Value} {i : Nat} {c : Const} {w0 : World} (ht : RTable w0 cs0 t) (hxi : t.consts[i]? = some c) : CV Try.prog 64 #[.agg cs0.toArray, .int .i64 (i : Int)] w0 (.int .i64 (cErr ((t.consts.take i).map (·.name)) c)) := by
  obtain ⟨cv, rfl, hmean, a, cap, rfl, hcap, hmx, hel⟩ := ht
  obtain ⟨hi, hci⟩ := List.getElem?_eq_some_iff.1 hxi
  obtain ⟨b, o, cs, ha, hlen, hcs, hR⟩ := hel i hi
  rw [hci] at hR
  obtain ⟨hv, rfl, hn1, hsl1, _, _, _, _⟩ := hR
  obtain ⟨a1, cap1, rfl, hq1, hq2, hq3⟩ := id hsl1
  refine enter Try.func64 rfl Try.ntmps64 rfl ?_
  have hS := St.start w0
  refine seq ?_
  refine region ?_
  refine sbox hS rfl rfl ?_; clear hS; intro b2 w hS
  refine sv (yAsg rfl) ?_
  refine nil ?_
  show Code.wp _ _ _ _ _
  refine seq ?_
  refine region ?_
  refine sv (fa24_1 rfl) ?_
  refine sv (yLdB rfl Try.isAgg22 (hS.at _) rfl) ?_
  refine sv (yMove rfl) ?_
  refine sv (yIxa rfl ha rfl Try.runUnderlying22 Try.sizeOf46 (by omega) (by omega)) ?_
  refine sv (yLdA rfl Try.isAgg46 Try.sizeOf46 (hcs.ext hS.ext) rfl) ?_
  refine salloc hS Try.zeroValue46 rfl ?_; clear hS; intro b5 w hS
  refine sst hS rfl rfl Try.sizeOf46 rfl rfl rfl rfl ?_; clear hS; intro w hS
  refine nil ?_
  show Code.wp _ _ _ _ _
  refine seq ?_
  refine seq ?_
  refine region ?_
  refine sv (fa46_0 rfl) ?_
  refine sv (yLdB rfl Try.isAgg9 (hS.at _) rfl) ?_
  refine scall Try.call22 (.cons rfl .nil) (c_rName hn1) ?_
  rintro _ w ⟨rfl, hE⟩; replace hS := hS.step hE; clear hE
  refine sv (yNot rfl) ?_
  refine nil ?_
  show Code.wp _ _ _ _ _
  refine cond rfl (fun c17 => ?_) (fun c17 => ?_)
  ·
    simp only [Bool.and_eq_true, Bool.or_eq_true, Bool.and_eq_false_iff, Bool.or_eq_false_iff, decide_eq_true_eq, decide_eq_false_iff_not, Bool.not_eq_true, Bool.not_eq_false, Bool.not_not, Bool.not_eq_eq_eq_not, Bool.not_true, Bool.not_false, Bool.false_eq_true, Bool.true_eq_false, ne_eq, Decidable.not_not, not_false_eq_true, not_true_eq_false] at c17
    refine seq ?_
    refine region ?_
    refine sv (yAsg rfl) ?_
    refine nil ?_
    show Code.wp _ _ _ _ _
    refine wp_ret (thenR ?_)
    exact retV (res1 rfl (eqI (cErr6 c17))) hS.ext
  ·
    simp only [Bool.and_eq_true, Bool.or_eq_true, Bool.and_eq_false_iff, Bool.or_eq_false_iff, decide_eq_true_eq, decide_eq_false_iff_not, Bool.not_eq_true, Bool.not_eq_false, Bool.not_not, Bool.not_eq_eq_eq_not, Bool.not_true, Bool.not_false, Bool.false_eq_true, Bool.true_eq_false, ne_eq, Decidable.not_not, not_false_eq_true, not_true_eq_false] at c17
    refine skip ?_
    show Code.wp _ _ _ _ _
    refine seq ?_
    refine seq ?_
    refine region ?_
    refine sv (yAsg rfl) ?_
    refine nil ?_
    show Code.wp _ _ _ _ _
    refine block ?_
    refine loop (fun f w m => ∃ (k : Nat), f 1 = .int .i64 (i : Int) ∧ f 2 = .pointer (some ⟨b2, 0, none⟩) ∧ f 5 = .pointer (some ⟨b5, 0, none⟩) ∧ f 6 = .int .i64 (k : Int) ∧ St w0 w [blk b5 [.string c.name, .slice a1 c.heights.length cap1, .int .i64 c.off, .int .i64 c.step, .int .i64 c.den, .int .i64 c.slack] 46, blk b2 [.int .i64 t.mean, .slice a t.consts.length cap] 24] ∧ (k ≤ i) ∧ (memB c.name ((t.consts.take k).map (·.name)) = false) ∧ m = i - k) _ ⟨_, rfl, 0, rfl, rfl, rfl, rfl, hS, (Nat.zero_le _), (rfl), rfl⟩ ?_
    clear hS
    rintro f w _ ⟨k, h1, h2, h5, h6, hS, hk, hM, rfl⟩
    refine seq ?_
    refine seq ?_
    refine region ?_
    refine sv (yMove h6) ?_
    refine sv (yMove h1) ?_
    refine sv (yLss rfl rfl) ?_
    refine nil ?_
    show Code.wp _ _ _ _ _
    refine cond rfl (fun c20 => ?_) (fun c20 => ?_)
    ·
      simp only [Bool.and_eq_true, Bool.or_eq_true, Bool.and_eq_false_iff, Bool.or_eq_false_iff, decide_eq_true_eq, decide_eq_false_iff_not, Bool.not_eq_true, Bool.not_eq_false, Bool.not_not, Bool.not_eq_eq_eq_not, Bool.not_true, Bool.not_false, Bool.false_eq_true, Bool.true_eq_false, ne_eq, Decidable.not_not, not_false_eq_true, not_true_eq_false] at c20
      obtain ⟨d, hy, hyd⟩ := drop_of (l := t.consts) (k := k) (by omega)
      obtain ⟨b2', o2, cs2, ha2, hlen2, hcs2, hR2⟩ := hel k (by omega)
      obtain rfl : d = t.consts[k] := (List.getElem?_eq_some_iff.1 hy).2.symm
      generalize t.consts[k] = d at hy hyd hR2
      obtain ⟨hv2, rfl, _⟩ := hR2
      refine skip ?_
      show Code.wp _ _ _ _ _
      refine seq ?_
      refine block ?_
      refine seq ?_
      refine region_draw mixed (by kernel_rfl) hS ?_
      refine qv (fun w hS => (fa24_1 h2)) ?_
      refine qv (fun w hS => (yLdB rfl Try.isAgg22 (hS.at _) rfl)) ?_
      refine qv (fun w hS => (yMove h6)) ?_
      refine qv (fun w hS => (yIxa rfl ha2 rfl Try.runUnderlying22 Try.sizeOf46 (by omega) (by omega))) ?_
      refine qv (fun w hS => (fa46_0 rfl)) ?_
      refine qv (fun w hS => (yLd rfl Try.isAgg9 ((hcs2.ext hS.ext).at (j := 0) rfl))) ?_
      refine qv (fun w hS => (fa46_0 h5)) ?_
      refine qv (fun w hS => (yLdB rfl Try.isAgg9 (hS.at _) rfl)) ?_
      refine qv (fun w hS => (ySEq rfl rfl)) ?_
      clear hS; refine qnil (fun w hS => ?_)
      show Code.wp _ _ _ _ _
      refine cond rfl (fun c31 => ?_) (fun c31 => ?_)
      ·
        simp only [Bool.and_eq_true, Bool.or_eq_true, Bool.and_eq_false_iff, Bool.or_eq_false_iff, decide_eq_true_eq, decide_eq_false_iff_not, Bool.not_eq_true, Bool.not_eq_false, Bool.not_not, Bool.not_eq_eq_eq_not, Bool.not_true, Bool.not_false, Bool.false_eq_true, Bool.true_eq_false, ne_eq, Decidable.not_not, not_false_eq_true, not_true_eq_false] at c31
        refine seq ?_
        refine region ?_
        refine sv (yAsg rfl) ?_
        refine nil ?_
        show Code.wp _ _ _ _ _
        refine wp_ret (blockR (thenR (thenR (blockR (thenR ?_)))))
        exact retV (res1 rfl (eqI (cErr5 c17 (mem_take hy (by omega) c31)))) hS.ext
      ·
        simp only [Bool.and_eq_true, Bool.or_eq_true, Bool.and_eq_false_iff, Bool.or_eq_false_iff, decide_eq_true_eq, decide_eq_false_iff_not, Bool.not_eq_true, Bool.not_eq_false, Bool.not_not, Bool.not_eq_eq_eq_not, Bool.not_true, Bool.not_false, Bool.false_eq_true, Bool.true_eq_false, ne_eq, Decidable.not_not, not_false_eq_true, not_true_eq_false] at c31
        refine skip ?_
        show Code.wp _ _ _ _ _
        refine region ?_
        refine sv (yMove h6) ?_
        refine sv (yAdd rfl rfl ⟨by omega, by omega⟩) ?_
        refine sv (yAsg rfl) ?_
        refine nil ?_
        exact ⟨_, _, rfl, ⟨k + 1, h1, h2, h5, rfl, hS, (by omega), (by rw [take_names hy, memB_snoc, hM, decide_eq_false (fun h => c31 h.symm)]; rfl), rfl⟩, by omega⟩
    ·
      simp only [Bool.and_eq_true, Bool.or_eq_true, Bool.and_eq_false_iff, Bool.or_eq_false_iff, decide_eq_true_eq, decide_eq_false_iff_not, Bool.not_eq_true, Bool.not_eq_false, Bool.not_not, Bool.not_eq_eq_eq_not, Bool.not_true, Bool.not_false, Bool.false_eq_true, Bool.true_eq_false, ne_eq, Decidable.not_not, not_false_eq_true, not_true_eq_false] at c20
      obtain rfl : k = i := by omega
      refine exit ?_
      show Code.wp _ _ _ _ _
      refine seq ?_
      refine seq ?_
      refine region ?_
      refine sv (fa46_1 h5) ?_
      refine sv (yLdB rfl Try.isAgg44 (hS.at _) rfl) ?_
      refine sv (yLen rfl Try.underlying44) ?_
      refine scall Try.call63 (.cons rfl (.cons rfl (.cons rfl .nil))) c_in ?_
      rintro _ w ⟨rfl, hE⟩; replace hS := hS.step hE; clear hE
      refine sv (yNot rfl) ?_
      refine nil ?_
      show Code.wp _ _ _ _ _
      refine cond rfl (fun c36 => ?_) (fun c36 => ?_)
      ·
        simp only [Bool.and_eq_true, Bool.or_eq_true, Bool.and_eq_false_iff, Bool.or_eq_false_iff, decide_eq_true_eq, decide_eq_false_iff_not, Bool.not_eq_true, Bool.not_eq_false, Bool.not_not, Bool.not_eq_eq_eq_not, Bool.not_true, Bool.not_false, Bool.false_eq_true, Bool.true_eq_false, ne_eq, Decidable.not_not, not_false_eq_true, not_true_eq_false, inB] at c36
        refine seq ?_
        refine region ?_
        refine sv (yAsg rfl) ?_
        refine nil ?_
        show Code.wp _ _ _ _ _
        refine wp_ret (thenR ?_)
        exact retV (res1 rfl (eqI (cErr3 c17 hM (by omega)))) hS.ext
      ·
        simp only [Bool.and_eq_true, Bool.or_eq_true, Bool.and_eq_false_iff, Bool.or_eq_false_iff, decide_eq_true_eq, decide_eq_false_iff_not, Bool.not_eq_true, Bool.not_eq_false, Bool.not_not, Bool.not_eq_eq_eq_not, Bool.not_true, Bool.not_false, Bool.false_eq_true, Bool.true_eq_false, ne_eq, Decidable.not_not, not_false_eq_true, not_true_eq_false, inB] at c36
        refine skip ?_
        show Code.wp _ _ _ _ _
        refine seq ?_
        refine region ?_
        refine sv (fa46_4 h5) ?_
        refine sv (yLdB rfl Try.isAgg3 (hS.at _) rfl) ?_
        refine scall Try.call63 (.cons rfl (.cons rfl (.cons rfl .nil))) c_in ?_
        rintro _ w ⟨rfl, hE⟩; replace hS := hS.step hE; clear hE
        refine sv (yMove rfl) ?_
        refine sg rfl rfl rfl (fun g => (fa46_3 h5)) (fun v41 g41 => ?_)
        refine sg rfl rfl rfl (fun g => (yLdB (g41.1 g) Try.isAgg3 (hS.at _) rfl)) (fun v42 g42 => ?_)
        refine sgc hS rfl rfl rfl Try.call63 (fun g => (.cons (g42.1 g) (.cons rfl (.cons rfl .nil)))) (fun g => c_in) ?_; clear hS; intro v43 w hS g43
        refine sv (yAnd rfl (fun hB => (g43.1 hB)) rfl) ?_
        refine sv (yMove rfl) ?_
        refine sg rfl rfl rfl (fun g => (fa46_5 h5)) (fun v46 g46 => ?_)
        refine sg rfl rfl rfl (fun g => (yLdB (g46.1 g) Try.isAgg3 (hS.at _) rfl)) (fun v47 g47 => ?_)
        refine sgc hS rfl rfl rfl Try.call63 (fun g => (.cons (g47.1 g) (.cons rfl (.cons rfl .nil)))) (fun g => c_in) ?_; clear hS; intro v48 w hS g48
        refine sv (yAnd rfl (fun hB => (g48.1 hB)) rfl) ?_
        refine sv (yAsg rfl) ?_
        refine nil ?_
        show Code.wp _ _ _ _ _
        refine seq ?_
        refine seq ?_
        refine region ?_
        refine sv (yAsg rfl) ?_
        refine nil ?_
        show Code.wp _ _ _ _ _
        refine block ?_
        refine loop (fun f w m => ∃ (k : Nat) (G : Bool), f 5 = .pointer (some ⟨b5, 0, none⟩) ∧ f 7 = .bool G ∧ f 8 = .int .i64 (k : Int) ∧ St w0 w [blk b5 [.string c.name, .slice a1 c.heights.length cap1, .int .i64 c.off, .int .i64 c.step, .int .i64 c.den, .int .i64 c.slack] 46, blk b2 [.int .i64 t.mean, .slice a t.consts.length cap] 24] ∧ (k ≤ c.heights.length) ∧ (G = (baseB c && heightsB (c.heights.take k))) ∧ m = c.heights.length - k) _ ⟨_, rfl, 0, _, h5, rfl, rfl, hS, (Nat.zero_le _), (by rw [List.take_zero]; exact (Bool.and_true _).symm), rfl⟩ ?_
        clear hS
        rintro f w _ ⟨k, G, h5, h7, h8, hS, hk, hG, rfl⟩
        refine seq ?_
        refine seq ?_
        refine region ?_
        refine sv (yMove h8) ?_
        refine sv (fa46_1 h5) ?_
        refine sv (yLdB rfl Try.isAgg44 (hS.at _) rfl) ?_
        refine sv (yLen rfl Try.underlying44) ?_
        refine sv (yLss rfl rfl) ?_
        refine nil ?_
        show Code.wp _ _ _ _ _
        refine cond rfl (fun c54 => ?_) (fun c54 => ?_)
        ·
          simp only [Bool.and_eq_true, Bool.or_eq_true, Bool.and_eq_false_iff, Bool.or_eq_false_iff, decide_eq_true_eq, decide_eq_false_iff_not, Bool.not_eq_true, Bool.not_eq_false, Bool.not_not, Bool.not_eq_eq_eq_not, Bool.not_true, Bool.not_false, Bool.false_eq_true, Bool.true_eq_false, ne_eq, Decidable.not_not, not_false_eq_true, not_true_eq_false] at c54
          obtain ⟨z, hz, hzd⟩ := drop_of (l := c.heights) (k := k) (by omega)
          obtain ⟨b3, o3, cs3, ha3, hlen3, hcs3, hR3⟩ := hq3 k (by omega)
          obtain rfl : z = c.heights[k] := (List.getElem?_eq_some_iff.1 hz).2.symm
          obtain ⟨rfl, hz64⟩ := hR3
          refine skip ?_
          show Code.wp _ _ _ _ _
          refine seq ?_
          refine block ?_
          refine region ?_
          refine sv (yMove h7) ?_
          refine sv (yMove rfl) ?_
          refine sg rfl rfl rfl (fun g => (fa46_1 h5)) (fun v59 g59 => ?_)
          refine sg rfl rfl rfl (fun g => (yLdB (g59.1 g) Try.isAgg44 (hS.at _) rfl)) (fun v60 g60 => ?_)
          refine sg rfl rfl rfl (fun g => (yMove h8)) (fun v61 g61 => ?_)
          refine sg rfl rfl rfl (fun g => (yIxa (g60.1 g) ha3 (g61.1 g) Try.runUnderlying44 Try.sizeOf3 (by omega) (by omega))) (fun v62 g62 => ?_)
          refine sg rfl rfl rfl (fun g => (yLd (g62.1 g) Try.isAgg3 (hcs3.ext hS.ext).one)) (fun v63 g63 => ?_)
          refine sgc hS rfl rfl rfl Try.call63 (fun g => (.cons (g63.1 g) (.cons rfl (.cons rfl .nil)))) (fun g => c_in) ?_; clear hS; intro v64 w hS g64
          refine sv (yAnd rfl (fun hB => (g64.1 hB)) rfl) ?_
          refine sv (yAsg rfl) ?_
          refine nil ?_
          show Code.wp _ _ _ _ _
          refine region ?_
          refine sv (yMove h8) ?_
          refine sv (yAdd rfl rfl ⟨by omega, by omega⟩) ?_
          refine sv (yAsg rfl) ?_
          refine nil ?_
          exact ⟨_, _, rfl, ⟨k + 1, _, h5, rfl, rfl, hS, (by omega), (by rw [heightsB_snoc hz, ← Bool.and_assoc, ← hG]), rfl⟩, by omega⟩
        ·
          simp only [Bool.and_eq_true, Bool.or_eq_true, Bool.and_eq_false_iff, Bool.or_eq_false_iff, decide_eq_true_eq, decide_eq_false_iff_not, Bool.not_eq_true, Bool.not_eq_false, Bool.not_not, Bool.not_eq_eq_eq_not, Bool.not_true, Bool.not_false, Bool.false_eq_true, Bool.true_eq_false, ne_eq, Decidable.not_not, not_false_eq_true, not_true_eq_false] at c54
          obtain rfl : k = c.heights.length := by omega
          rw [List.take_length] at hG
          refine exit ?_
          show Code.wp _ _ _ _ _
          refine seq ?_
          refine seq ?_
          refine region ?_
          refine sv (yMove h7) ?_
          refine sv (yNot rfl) ?_
          refine sv (yMove rfl) ?_
          refine sg rfl rfl rfl (fun g => (fa46_2 h5)) (fun v69 g69 => ?_)
          refine sg rfl rfl rfl (fun g => (yLdB (g69.1 g) Try.isAgg3 (hS.at _) rfl)) (fun v70 g70 => ?_)
          refine sg rfl rfl rfl (fun g => (fa46_4 h5)) (fun v71 g71 => ?_)
          refine sg rfl rfl rfl (fun g => (yLdB (g71.1 g) Try.isAgg3 (hS.at _) rfl)) (fun v72 g72 => ?_)
          refine sg rfl rfl rfl (fun g => (fa46_1 h5)) (fun v73 g73 => ?_)
          refine sg rfl rfl rfl (fun g => (yLdB (g73.1 g) Try.isAgg44 (hS.at _) rfl)) (fun v74 g74 => ?_)
          refine sg rfl rfl rfl (fun g => (yLen (g74.1 g) Try.underlying44)) (fun v75 g75 => ?_)
          refine sg rfl rfl rfl (fun g => (yMul (g72.1 g) (g75.1 g) (by have := base_den (hG ▸ g); have := cyc_bd this.1 this.2 c36.2; exact ⟨by omega, by omega⟩))) (fun v76 g76 => ?_)
          refine sg rfl rfl rfl (fun g => (ySub (g76.1 g) rfl (by have := base_den (hG ▸ g); have := cyc_bd this.1 this.2 c36.2; exact ⟨by omega, by omega⟩))) (fun v77 g77 => ?_)
          refine sgc hS rfl rfl rfl Try.call63 (fun g => (.cons (g70.1 g) (.cons rfl (.cons (g77.1 g) .nil)))) (fun g => c_in) ?_; clear hS; intro v78 w hS g78
          refine sg rfl rfl rfl (fun g => (yNot (g78.1 g))) (fun v79 g79 => ?_)
          refine sv (yOr rfl rfl (fun hB => (g79.1 hB))) ?_
          refine nil ?_
          show Code.wp _ _ _ _ _
          refine cond rfl (fun c80 => ?_) (fun c80 => ?_)
          ·
            subst hG; rw [numsB_eq] at c80
            refine seq ?_
            refine region ?_
            refine sv (yAsg rfl) ?_
            refine nil ?_
            show Code.wp _ _ _ _ _
            refine wp_ret (thenR ?_)
            exact retV (res1 rfl (eqI (by rw [cErr7 c17 hM c36, if_pos c80]))) hS.ext
          ·
            subst hG; rw [numsB_eq] at c80
            refine skip ?_
            show Code.wp _ _ _ _ _
            refine seq ?_
            refine region ?_
            refine sv (yAsg rfl) ?_
            refine nil ?_
            show Code.wp _ _ _ _ _
            refine wp_ret ?_
            exact retV (res1 rfl (eqI (by rw [cErr7 c17 hM c36, if_neg (by rw [c80]; decide)]))) hS.ext
set_option maxHeartbeats 1000000 in
/-- barrage/barrageref01.Check -/
theorem c_rCheck {t : Table} {cs : List Value} {w0 : World} (ht : RTable w0 cs t) : CV Try.prog 20 #[.agg cs.toArray] w0 (.tuple #[.int .i64 (checkT t).1, .int .i64 (checkT t).2]) := by
  obtain ⟨cv, rfl, hmean, hsl⟩ := id ht
  obtain ⟨a, cap, rfl, hcap, hmx, hel⟩ := id hsl
  refine enter Try.func20 rfl Try.ntmps20 rfl ?_
  have hS := St.start w0
  refine seq ?_
  refine region ?_
  refine sbox hS rfl rfl ?_; clear hS; intro b1 w hS
  refine sv (yAsg rfl) ?_
  refine sv (yAsg rfl) ?_
  refine nil ?_
  show Code.wp _ _ _ _ _
  refine seq ?_
  refine seq ?_
  refine region ?_
  refine sv (fa24_0 rfl) ?_
  refine sv (yLdB rfl Try.isAgg3 (hS.at _) rfl) ?_
  refine scall Try.call63 (.cons rfl (.cons rfl (.cons rfl .nil))) c_in ?_
  rintro _ w ⟨rfl, hE⟩; replace hS := hS.step hE; clear hE
  refine sv (yNot rfl) ?_
  refine nil ?_
  show Code.wp _ _ _ _ _
  refine cond rfl (fun c9 => ?_) (fun c9 => ?_)
  ·
    simp only [Bool.and_eq_true, Bool.or_eq_true, Bool.and_eq_false_iff, Bool.or_eq_false_iff, decide_eq_true_eq, decide_eq_false_iff_not, Bool.not_eq_true, Bool.not_eq_false, Bool.not_not, Bool.not_eq_eq_eq_not, Bool.not_true, Bool.not_false, Bool.false_eq_true, Bool.true_eq_false, ne_eq, Decidable.not_not, not_false_eq_true, not_true_eq_false, inB] at c9
    refine seq ?_
    refine region ?_
    refine sv (yAsg rfl) ?_
    refine sv (yAsg rfl) ?_
    refine nil ?_
    show Code.wp _ _ _ _ _
    have hfin : checkT t = (-1, 7) := by unfold checkT; rw [if_pos (by rw [outB_true]; omega)]
    refine wp_ret (thenR ?_)
    exact retV (res2 rfl (fstI hfin) (sndI hfin)) hS.ext
  ·
    simp only [Bool.and_eq_true, Bool.or_eq_true, Bool.and_eq_false_iff, Bool.or_eq_false_iff, decide_eq_true_eq, decide_eq_false_iff_not, Bool.not_eq_true, Bool.not_eq_false, Bool.not_not, Bool.not_eq_eq_eq_not, Bool.not_true, Bool.not_false, Bool.false_eq_true, Bool.true_eq_false, ne_eq, Decidable.not_not, not_false_eq_true, not_true_eq_false, inB] at c9
    refine skip ?_
    show Code.wp _ _ _ _ _
    refine seq ?_
    refine seq ?_
    refine region ?_
    refine sv (fa24_1 rfl) ?_
    refine sv (yLdB rfl Try.isAgg22 (hS.at _) rfl) ?_
    refine sv (yLen rfl Try.underlying22) ?_
    refine sv (yGtr rfl rfl) ?_
    refine nil ?_
    show Code.wp _ _ _ _ _
    refine cond rfl (fun c13 => ?_) (fun c13 => ?_)
    ·
      simp only [Bool.and_eq_true, Bool.or_eq_true, Bool.and_eq_false_iff, Bool.or_eq_false_iff, decide_eq_true_eq, decide_eq_false_iff_not, Bool.not_eq_true, Bool.not_eq_false, Bool.not_not, Bool.not_eq_eq_eq_not, Bool.not_true, Bool.not_false, Bool.false_eq_true, Bool.true_eq_false, ne_eq, Decidable.not_not, not_false_eq_true, not_true_eq_false] at c13
      refine seq ?_
      refine region ?_
      refine sv (yAsg rfl) ?_
      refine sv (yAsg rfl) ?_
      refine nil ?_
      show Code.wp _ _ _ _ _
      have hfin : checkT t = (-1, 3) := by unfold checkT; rw [if_neg (by rw [Bool.not_eq_true, outB_false]; omega), if_pos c13]
      refine wp_ret (thenR ?_)
      exact retV (res2 rfl (fstI hfin) (sndI hfin)) hS.ext
    ·
      simp only [Bool.and_eq_true, Bool.or_eq_true, Bool.and_eq_false_iff, Bool.or_eq_false_iff, decide_eq_true_eq, decide_eq_false_iff_not, Bool.not_eq_true, Bool.not_eq_false, Bool.not_not, Bool.not_eq_eq_eq_not, Bool.not_true, Bool.not_false, Bool.false_eq_true, Bool.true_eq_false, ne_eq, Decidable.not_not, not_false_eq_true, not_true_eq_false] at c13
      have hgood : checkT t = checkL t.consts [] 0 := by unfold checkT; rw [if_neg (by rw [Bool.not_eq_true, outB_false]; omega), if_neg c13]
      refine skip ?_
      show Code.wp _ _ _ _ _
      refine seq ?_
      refine seq ?_
      refine region ?_
      refine sv (yAsg rfl) ?_
      refine nil ?_
      show Code.wp _ _ _ _ _
      refine block ?_
      refine loop (fun f w m => ∃ (k : Nat), f 1 = .pointer (some ⟨b1, 0, none⟩) ∧ f 4 = .int .i64 (k : Int) ∧ St w0 w [blk b1 [.int .i64 t.mean, .slice a t.consts.length cap] 24] ∧ (k ≤ t.consts.length) ∧ (checkT t = checkL (t.consts.drop k) ((t.consts.take k).map (·.name)) k) ∧ m = t.consts.length - k) _ ⟨_, rfl, 0, rfl, rfl, hS, (Nat.zero_le _), (hgood), rfl⟩ ?_
      clear hS
      rintro f w _ ⟨k, h1, h4, hS, hk, hI, rfl⟩
      refine seq ?_
      refine seq ?_
      refine region ?_
      refine sv (yMove h4) ?_
      refine sv (fa24_1 h1) ?_
      refine sv (yLdB rfl Try.isAgg22 (hS.at _) rfl) ?_
      refine sv (yLen rfl Try.underlying22) ?_
      refine sv (yLss rfl rfl) ?_
      refine nil ?_
      show Code.wp _ _ _ _ _
      refine cond rfl (fun c18 => ?_) (fun c18 => ?_)
      ·
        simp only [Bool.and_eq_true, Bool.or_eq_true, Bool.and_eq_false_iff, Bool.or_eq_false_iff, decide_eq_true_eq, decide_eq_false_iff_not, Bool.not_eq_true, Bool.not_eq_false, Bool.not_not, Bool.not_eq_eq_eq_not, Bool.not_true, Bool.not_false, Bool.false_eq_true, Bool.true_eq_false, ne_eq, Decidable.not_not, not_false_eq_true, not_true_eq_false] at c18
        obtain ⟨c, hx, hd⟩ := drop_of (l := t.consts) (k := k) (by omega)
        refine skip ?_
        show Code.wp _ _ _ _ _
        refine seq ?_
        refine block ?_
        refine seq ?_
        refine region ?_
        refine sv (yLdBA h1 Try.isAgg24 Try.sizeOf24 (hS.at _) rfl rfl) ?_
        refine sv (yMove h4) ?_
        refine scall Try.call64 (.cons rfl (.cons rfl .nil)) (c_rConst (ht.ext hS.ext) hx) ?_
        rintro _ w ⟨rfl, hE⟩; replace hS := hS.step hE; clear hE
        refine sv (yAsg rfl) ?_
        refine nil ?_
        show Code.wp _ _ _ _ _
        refine seq ?_
        refine region ?_
        refine sv (yMove rfl) ?_
        refine sv (yNeq rfl rfl) ?_
        refine nil ?_
        show Code.wp _ _ _ _ _
        refine cond rfl (fun c25 => ?_) (fun c25 => ?_)
        ·
          simp only [Bool.and_eq_true, Bool.or_eq_true, Bool.and_eq_false_iff, Bool.or_eq_false_iff, decide_eq_true_eq, decide_eq_false_iff_not, Bool.not_eq_true, Bool.not_eq_false, Bool.not_not, Bool.not_eq_eq_eq_not, Bool.not_true, Bool.not_false, Bool.false_eq_true, Bool.true_eq_false, ne_eq, Decidable.not_not, not_false_eq_true, not_true_eq_false] at c25
          refine seq ?_
          refine region ?_
          refine sv (yMove h4) ?_
          refine sv (yMove rfl) ?_
          refine sv (yAsg rfl) ?_
          refine sv (yAsg rfl) ?_
          refine nil ?_
          show Code.wp _ _ _ _ _
          have hfin : checkT t = ((k : Int), cErr ((t.consts.take k).map (·.name)) c) := by rw [hI, hd, checkL, if_pos c25]
          refine wp_ret (blockR (thenR (thenR (blockR (thenR ?_)))))
          exact retV (res2 rfl (fstI hfin) (sndI hfin)) hS.ext
        ·
          simp only [Bool.and_eq_true, Bool.or_eq_true, Bool.and_eq_false_iff, Bool.or_eq_false_iff, decide_eq_true_eq, decide_eq_false_iff_not, Bool.not_eq_true, Bool.not_eq_false, Bool.not_not, Bool.not_eq_eq_eq_not, Bool.not_true, Bool.not_false, Bool.false_eq_true, Bool.true_eq_false, ne_eq, Decidable.not_not, not_false_eq_true, not_true_eq_false] at c25
          refine skip ?_
          show Code.wp _ _ _ _ _
          refine region ?_
          refine sv (yMove h4) ?_
          refine sv (yAdd rfl rfl ⟨by omega, by omega⟩) ?_
          refine sv (yAsg rfl) ?_
          refine nil ?_
          exact ⟨_, _, rfl, ⟨k + 1, h1, rfl, hS, (by omega), (by rw [hI, hd, checkL, if_neg (fun h => h c25), take_names hx]; rfl), rfl⟩, by omega⟩
      ·
        simp only [Bool.and_eq_true, Bool.or_eq_true, Bool.and_eq_false_iff, Bool.or_eq_false_iff, decide_eq_true_eq, decide_eq_false_iff_not, Bool.not_eq_true, Bool.not_eq_false, Bool.not_not, Bool.not_eq_eq_eq_not, Bool.not_true, Bool.not_false, Bool.false_eq_true, Bool.true_eq_false, ne_eq, Decidable.not_not, not_false_eq_true, not_true_eq_false] at c18
        obtain rfl : k = t.consts.length := by omega
        refine exit ?_
        show Code.wp _ _ _ _ _
        refine seq ?_
        refine region ?_
        refine sv (yAsg rfl) ?_
        refine sv (yAsg rfl) ?_
        refine nil ?_
        show Code.wp _ _ _ _ _
        have hfin : checkT t = (0, 0) := by rw [hI, List.drop_length]; rfl
        refine wp_ret ?_
        exact retV (res2 rfl (fstI hfin) (sndI hfin)) hS.ext
end Go.Proofs.Ytpgmehignepidaa
