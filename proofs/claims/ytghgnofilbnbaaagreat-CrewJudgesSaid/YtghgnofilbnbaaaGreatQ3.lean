/- Merged texts, part 3. -/
import Derived.Test.YtghgnofilbnbaaaGreatQ2
import Derived.Laws.Pointers
set_option linter.all false
/- part Ck11 -/
namespace Go.Proofs.YtghgnofilbnbaaaGreat
open Go Bx
/-- slices.Index   int,int  -/
theorem c_IndexI {l : List Int} {x : Int} {v : Value} {w0 : World} (hsl : Sl w0 1 RInt v l) : CV Tryz.prog 96 #[v, .int .i64 x] w0 (.int .i64 (idxI l x)) := by
  obtain ⟨a, cap, rfl, hcap, hmx, hel⟩ := hsl
  obtain ⟨p, hp⟩ : ∃ p : Int → Bool, p = fun y => decide (x = y) := ⟨_, rfl⟩
  refine enter Tryz.func96 rfl Tryz.ntmps96 rfl ?_
  have hS := St.start w0
  refine seq ?_
  refine region ?_
  refine sv (yAsg rfl) ?_
  refine nil ?_
  show Code.wp _ _ _ _ _
  refine seq ?_
  refine seq ?_
  refine region ?_
  refine sv (yMove rfl) ?_
  refine sv (yLen rfl Tryz.underlying37) ?_
  refine sv (yMove rfl) ?_
  refine nil ?_
  show Code.wp _ _ _ _ _
  refine block ?_
  refine loop (fun f w zz => ∃ (k : Nat), f 0 = .slice a l.length cap ∧ f 1 = .int .i64 x ∧ f 7 = .int .i64 (l.length : Int) ∧ f 8 = .int .i64 (k : Int) ∧ StX [] w0 w [] ∧ (k ≤ l.length) ∧ (idxF p l 0 = idxF p (l.drop k) k) ∧ zz = l.length - k) _ ⟨_, rfl, 0, rfl, rfl, rfl, rfl, hS, (Nat.zero_le _), (rfl), rfl⟩ ?_
  clear hS
  rintro f w _ ⟨k, h0, h1, h7, h8, hS, hk, hI, rfl⟩
  refine seq ?_
  refine region ?_
  refine sv (yLss h8 h7) ?_
  refine nil ?_
  show Code.wp _ _ _ _ _
  refine seq ?_
  refine cond rfl (fun c9 => ?_) (fun c9 => ?_)
  ·
    simp only [Bool.and_eq_true, Bool.or_eq_true, Bool.and_eq_false_iff, Bool.or_eq_false_iff, decide_eq_true_eq, decide_eq_false_iff_not, Bool.not_eq_true, Bool.not_eq_false, Bool.not_not, Bool.not_eq_eq_eq_not, Bool.not_true, Bool.not_false, Bool.false_eq_true, Bool.true_eq_false, ne_eq, Decidable.not_not, not_false_eq_true, not_true_eq_false] at c9
    refine skip ?_
    show Code.wp _ _ _ _ _
    refine seq ?_
    refine block ?_
    refine seq ?_
    refine region ?_
    refine sv (yMove h8) ?_
    refine sv (yAsg rfl) ?_
    refine nil ?_
    show Code.wp _ _ _ _ _
    refine seq ?_
    refine region ?_
    obtain ⟨y, hx, hd⟩ := drop_of (l := l) (k := k) (by omega)
    obtain ⟨b, o, cs, ha, hlen, hcs, hR⟩ := hel k (by omega)
    obtain rfl : y = l[k] := (List.getElem?_eq_some_iff.1 hx).2.symm
    obtain ⟨rfl, -⟩ := hR
    refine sv (yMove h1) ?_
    refine sv (yMove h0) ?_
    refine sv (yMove rfl) ?_
    refine sv (yIxa rfl ha rfl Tryz.runUnderlying37 Tryz.sizeOf3 (by omega) (by omega)) ?_
    refine sv (yLd rfl Tryz.isAgg3 ((hcs.ext hS.ext).at (j := 0) rfl)) ?_
    refine sv (yEql rfl rfl) ?_
    refine nil ?_
    show Code.wp _ _ _ _ _
    refine cond rfl (fun c16 => ?_) (fun c16 => ?_)
    ·
      simp only [Bool.and_eq_true, Bool.or_eq_true, Bool.and_eq_false_iff, Bool.or_eq_false_iff, decide_eq_true_eq, decide_eq_false_iff_not, Bool.not_eq_true, Bool.not_eq_false, Bool.not_not, Bool.not_eq_eq_eq_not, Bool.not_true, Bool.not_false, Bool.false_eq_true, Bool.true_eq_false, ne_eq, Decidable.not_not, not_false_eq_true, not_true_eq_false] at c16
      refine seq ?_
      refine region ?_
      refine sv (yMove rfl) ?_
      refine sv (yAsg rfl) ?_
      refine nil ?_
      show Code.wp _ _ _ _ _
      refine wp_ret (blockR (thenR (thenR (blockR (thenR ?_)))))
      exact retV (res1 rfl (eqI (by unfold idxI; rw [← hp, hI, hd, idxF, if_pos (by simp [hp, c16])]))) hS.ext
    ·
      simp only [Bool.and_eq_true, Bool.or_eq_true, Bool.and_eq_false_iff, Bool.or_eq_false_iff, decide_eq_true_eq, decide_eq_false_iff_not, Bool.not_eq_true, Bool.not_eq_false, Bool.not_not, Bool.not_eq_eq_eq_not, Bool.not_true, Bool.not_false, Bool.false_eq_true, Bool.true_eq_false, ne_eq, Decidable.not_not, not_false_eq_true, not_true_eq_false] at c16
      refine skip ?_
      show Code.wp _ _ _ _ _
      refine region ?_
      refine sv (yAdd h8 rfl ⟨by omega, by omega⟩) ?_
      refine sv (yMove rfl) ?_
      refine nil ?_
      exact ⟨_, _, rfl, ⟨k + 1, h0, h1, h7, rfl, hS, (by omega), (by rw [hI, hd, idxF, if_neg (by simp [hp, c16])]; rfl), rfl⟩, by omega⟩
  ·
    simp only [Bool.and_eq_true, Bool.or_eq_true, Bool.and_eq_false_iff, Bool.or_eq_false_iff, decide_eq_true_eq, decide_eq_false_iff_not, Bool.not_eq_true, Bool.not_eq_false, Bool.not_not, Bool.not_eq_eq_eq_not, Bool.not_true, Bool.not_false, Bool.false_eq_true, Bool.true_eq_false, ne_eq, Decidable.not_not, not_false_eq_true, not_true_eq_false] at c9
    refine exit ?_
    show Code.wp _ _ _ _ _
    refine seq ?_
    refine region ?_
    refine sv (yAsg rfl) ?_
    refine nil ?_
    show Code.wp _ _ _ _ _
    obtain rfl : k = l.length := by omega
    refine wp_ret ?_
    exact retV (res1 rfl (eqI (by unfold idxI; rw [← hp, hI, List.drop_length]; rfl))) hS.ext
/-- slices.Min   int,int  -/
theorem c_MinI {l : List Int} {v : Value} {w0 : World} (hsl : Sl w0 1 RInt v l) (hl : 0 < l.length) : CV Tryz.prog 87 #[v] w0 (.int .i64 (minL l)) := by
  obtain ⟨a, cap, rfl, hcap, hmx, hel⟩ := hsl
  refine enter Tryz.func87 rfl Tryz.ntmps87 rfl ?_
  have hS := St.start w0
  refine seq ?_
  refine region ?_
  refine sv (yAsg rfl) ?_
  refine nil ?_
  show Code.wp _ _ _ _ _
  refine seq ?_
  refine seq ?_
  refine region ?_
  refine sv (yMove rfl) ?_
  refine sv (yLen rfl Tryz.underlying37) ?_
  refine sv (yLss rfl rfl) ?_
  refine nil ?_
  show Code.wp _ _ _ _ _
  refine cond rfl (fun c7 => ?_) (fun c7 => ?_)
  ·
    simp only [Bool.and_eq_true, Bool.or_eq_true, Bool.and_eq_false_iff, Bool.or_eq_false_iff, decide_eq_true_eq, decide_eq_false_iff_not, Bool.not_eq_true, Bool.not_eq_false, Bool.not_not, Bool.not_eq_eq_eq_not, Bool.not_true, Bool.not_false, Bool.false_eq_true, Bool.true_eq_false, ne_eq, Decidable.not_not, not_false_eq_true, not_true_eq_false] at c7
    exfalso; omega
  ·
    simp only [Bool.and_eq_true, Bool.or_eq_true, Bool.and_eq_false_iff, Bool.or_eq_false_iff, decide_eq_true_eq, decide_eq_false_iff_not, Bool.not_eq_true, Bool.not_eq_false, Bool.not_not, Bool.not_eq_eq_eq_not, Bool.not_true, Bool.not_false, Bool.false_eq_true, Bool.true_eq_false, ne_eq, Decidable.not_not, not_false_eq_true, not_true_eq_false] at c7
    refine skip ?_
    show Code.wp _ _ _ _ _
    refine seq ?_
    refine region ?_
    obtain ⟨y, hxz, hdz⟩ := drop_of (l := l) (k := 0) (by omega)
    obtain ⟨bz, oz, csz, haz, hlenz, hcsz, hRz⟩ := hel (0) (by omega)
    obtain rfl : y = l[0] := (List.getElem?_eq_some_iff.1 hxz).2.symm
    generalize l[0] = y at hxz hdz hRz
    obtain ⟨rfl, -⟩ := hRz
    have hl0 : l = y :: l.drop 1 := by rw [← hdz, List.drop_zero]
    refine sv (yMove rfl) ?_
    refine sv (yIxa rfl haz rfl Tryz.runUnderlying37 Tryz.sizeOf3 (by omega) (by omega)) ?_
    refine sv (yLd rfl Tryz.isAgg3 ((hcsz.ext hS.ext).at (j := 0) rfl)) ?_
    refine sv (yAsg rfl) ?_
    refine nil ?_
    show Code.wp _ _ _ _ _
    refine seq ?_
    refine seq ?_
    refine region ?_
    refine sv (yAsg rfl) ?_
    refine nil ?_
    show Code.wp _ _ _ _ _
    refine block ?_
    refine loop (fun f w zz => ∃ (k : Nat), f 0 = .slice a l.length cap ∧ f 3 = .int .i64 (((l.drop 1).take (k - 1)).foldl min y) ∧ f 4 = .int .i64 (k : Int) ∧ StX [] w0 w [] ∧ (1 ≤ k ∧ k ≤ l.length) ∧ zz = l.length - k) _ ⟨_, rfl, 1, rfl, rfl, rfl, hS, (⟨by omega, by omega⟩), rfl⟩ ?_
    clear hS
    rintro f w _ ⟨k, h0, h3, h4, hS, hk, rfl⟩
    refine seq ?_
    refine seq ?_
    refine region ?_
    refine sv (yMove h4) ?_
    refine sv (yMove h0) ?_
    refine sv (yLen rfl Tryz.underlying37) ?_
    refine sv (yLss rfl rfl) ?_
    refine nil ?_
    show Code.wp _ _ _ _ _
    refine cond rfl (fun c15 => ?_) (fun c15 => ?_)
    ·
      simp only [Bool.and_eq_true, Bool.or_eq_true, Bool.and_eq_false_iff, Bool.or_eq_false_iff, decide_eq_true_eq, decide_eq_false_iff_not, Bool.not_eq_true, Bool.not_eq_false, Bool.not_not, Bool.not_eq_eq_eq_not, Bool.not_true, Bool.not_false, Bool.false_eq_true, Bool.true_eq_false, ne_eq, Decidable.not_not, not_false_eq_true, not_true_eq_false] at c15
      refine skip ?_
      show Code.wp _ _ _ _ _
      refine seq ?_
      refine block ?_
      refine region ?_
      obtain ⟨u, hxq, hdq⟩ := drop_of (l := l) (k := k) (by omega)
      obtain ⟨bq, oq, csq, haq, hlenq, hcsq, hRq⟩ := hel (k) (by omega)
      obtain rfl : u = l[k] := (List.getElem?_eq_some_iff.1 hxq).2.symm
      generalize l[k] = u at hxq hdq hRq
      obtain ⟨rfl, -⟩ := hRq
      refine sv (yMove h3) ?_
      refine sv (yMove h0) ?_
      refine sv (yMove h4) ?_
      refine sv (yIxa rfl haq rfl Tryz.runUnderlying37 Tryz.sizeOf3 (by omega) (by omega)) ?_
      refine sv (yLd rfl Tryz.isAgg3 ((hcsq.ext hS.ext).at (j := 0) rfl)) ?_
      refine sv (yMin rfl rfl) ?_
      refine sv (yAsg rfl) ?_
      refine nil ?_
      show Code.wp _ _ _ _ _
      refine region ?_
      refine sv (yMove h4) ?_
      refine sv (yAdd rfl rfl ⟨by omega, by omega⟩) ?_
      refine sv (yAsg rfl) ?_
      refine nil ?_
      exact ⟨_, _, rfl, ⟨k + 1, h0, rfl.trans (congrArg (Value.int .i64) (min_take hk.1 hxq)), rfl, hS, (⟨by omega, by omega⟩), rfl⟩, by omega⟩
    ·
      simp only [Bool.and_eq_true, Bool.or_eq_true, Bool.and_eq_false_iff, Bool.or_eq_false_iff, decide_eq_true_eq, decide_eq_false_iff_not, Bool.not_eq_true, Bool.not_eq_false, Bool.not_not, Bool.not_eq_eq_eq_not, Bool.not_true, Bool.not_false, Bool.false_eq_true, Bool.true_eq_false, ne_eq, Decidable.not_not, not_false_eq_true, not_true_eq_false] at c15
      refine exit ?_
      show Code.wp _ _ _ _ _
      refine seq ?_
      refine region ?_
      refine sv (yMove h3) ?_
      refine sv (yAsg rfl) ?_
      refine nil ?_
      show Code.wp _ _ _ _ _
      obtain rfl : k = l.length := by omega
      refine wp_ret ?_
      exact retV (res1 rfl (eqI (min_all hl0).symm)) hS.ext
end Go.Proofs.YtghgnofilbnbaaaGreat

/- part Ck12 -/
namespace Go.Proofs.YtghgnofilbnbaaaGreat
open Go Bx
/-- math/bits.Mul64 -/
theorem c_Mul64 {k : Nat} {w0 : World} (hk : k ≤ 8) : CV Tryz.prog 84 #[.int .u64 1, .int .u64 (k : Int)] w0 (.tuple #[.int .u64 0, .int .u64 (k : Int)]) := by
  refine enter Tryz.func84 rfl Tryz.ntmps84 rfl ?_
  have hS := St.start w0
  refine seq ?_
  refine region ?_
  refine sv (yAsg rfl) ?_
  refine sv (yAsg rfl) ?_
  refine nil ?_
  show Code.wp _ _ _ _ _
  refine seq ?_
  refine region ?_
  refine sv (yMove rfl) ?_
  refine sv (yBin rfl rfl rfl and_1) ?_
  refine sv (yAsg rfl) ?_
  refine nil ?_
  show Code.wp _ _ _ _ _
  refine seq ?_
  refine region ?_
  refine sv (yMove rfl) ?_
  refine sv (yShr32 rfl rfl (by decide)) ?_
  refine sv (yAsg rfl) ?_
  refine nil ?_
  show Code.wp _ _ _ _ _
  refine seq ?_
  refine region ?_
  refine sv (yMove rfl) ?_
  refine sv (yBin rfl rfl rfl (and_k hk)) ?_
  refine sv (yAsg rfl) ?_
  refine nil ?_
  show Code.wp _ _ _ _ _
  refine seq ?_
  refine region ?_
  refine sv (yMove rfl) ?_
  refine sv (yShr32 rfl rfl ⟨by omega, by omega⟩) ?_
  refine sv (yAsg rfl) ?_
  refine nil ?_
  show Code.wp _ _ _ _ _
  refine seq ?_
  refine region ?_
  refine sv (yMove rfl) ?_
  refine sv (yMove rfl) ?_
  refine sv (yU (r := (k : Int)) rfl rfl (.inr ⟨rfl, by omega⟩) ⟨by omega, by omega⟩) ?_
  refine sv (yAsg rfl) ?_
  refine nil ?_
  show Code.wp _ _ _ _ _
  refine seq ?_
  refine region ?_
  refine sv (yMove rfl) ?_
  refine sv (yMove rfl) ?_
  refine sv (yU (r := 0) rfl rfl (by first | (exact .inl ⟨rfl, by omega⟩) | (exact .inr ⟨rfl, by simp⟩)) ⟨by omega, by omega⟩) ?_
  refine sv (yMove rfl) ?_
  refine sv (yShr32 rfl rfl ⟨by omega, by omega⟩) ?_
  refine sv (yU (r := 0) rfl rfl (by first | (exact .inl ⟨rfl, by omega⟩) | (exact .inr ⟨rfl, by simp⟩)) ⟨by omega, by omega⟩) ?_
  refine sv (yAsg rfl) ?_
  refine nil ?_
  show Code.wp _ _ _ _ _
  refine seq ?_
  refine region ?_
  refine sv (yMove rfl) ?_
  refine sv (yBin rfl rfl rfl and_0) ?_
  refine sv (yAsg rfl) ?_
  refine nil ?_
  show Code.wp _ _ _ _ _
  refine seq ?_
  refine region ?_
  refine sv (yMove rfl) ?_
  refine sv (yShr32 rfl rfl (by decide)) ?_
  refine sv (yAsg rfl) ?_
  refine nil ?_
  show Code.wp _ _ _ _ _
  refine seq ?_
  refine region ?_
  refine sv (yMove rfl) ?_
  refine sv (yMove rfl) ?_
  refine sv (yMove rfl) ?_
  refine sv (yU (r := 0) rfl rfl (by first | (exact .inl ⟨rfl, by omega⟩) | (exact .inr ⟨rfl, by simp⟩)) ⟨by omega, by omega⟩) ?_
  refine sv (yU (r := 0) rfl rfl (by first | (exact .inl ⟨rfl, by omega⟩) | (exact .inr ⟨rfl, by simp⟩)) ⟨by omega, by omega⟩) ?_
  refine sv (yAsg rfl) ?_
  refine nil ?_
  show Code.wp _ _ _ _ _
  refine seq ?_
  refine region ?_
  refine sv (yMove rfl) ?_
  refine sv (yMove rfl) ?_
  refine sv (yU (r := 0) rfl rfl (by first | (exact .inl ⟨rfl, by omega⟩) | (exact .inr ⟨rfl, by simp⟩)) ⟨by omega, by omega⟩) ?_
  refine sv (yMove rfl) ?_
  refine sv (yU (r := 0) rfl rfl (by first | (exact .inl ⟨rfl, by omega⟩) | (exact .inr ⟨rfl, by simp⟩)) ⟨by omega, by omega⟩) ?_
  refine sv (yMove rfl) ?_
  refine sv (yShr32 rfl rfl (by decide)) ?_
  refine sv (yU (r := 0) rfl rfl (by first | (exact .inl ⟨rfl, by omega⟩) | (exact .inr ⟨rfl, by simp⟩)) ⟨by omega, by omega⟩) ?_
  refine sv (yAsg rfl) ?_
  refine nil ?_
  show Code.wp _ _ _ _ _
  refine seq ?_
  refine region ?_
  refine sv (yMove rfl) ?_
  refine sv (yMove rfl) ?_
  refine sv (yU (r := (k : Int)) rfl rfl (.inr ⟨rfl, by omega⟩) ⟨by omega, by omega⟩) ?_
  refine sv (yAsg rfl) ?_
  refine nil ?_
  show Code.wp _ _ _ _ _
  refine wp_ret ?_
  exact retV (res2 rfl rfl rfl) hS.ext
/-- math/bits.Mul -/
theorem c_Mul {k : Nat} {w0 : World} (hk : k ≤ 8) : CV Tryz.prog 61 #[.int .u64 1, .int .u64 (k : Int)] w0 (.tuple #[.int .u64 0, .int .u64 (k : Int)]) := by
  refine enter Tryz.func61 rfl Tryz.ntmps61 rfl ?_
  have hS := St.start w0
  refine seq ?_
  refine region ?_
  refine sv (yAsg rfl) ?_
  refine sv (yAsg rfl) ?_
  refine nil ?_
  show Code.wp _ _ _ _ _
  refine seq ?_
  refine cond rfl (fun cK => ?_) (fun cK => ?_)
  ·
    cases cK
  ·
    refine skip ?_
    show Code.wp _ _ _ _ _
    refine seq ?_
    refine region ?_
    refine sv (yMove rfl) ?_
    refine sv (yMove rfl) ?_
    refine scall Tryz.call84 (.cons rfl (.cons rfl .nil)) (c_Mul64 hk) ?_
    rintro _ w ⟨rfl, hE⟩; replace hS := hS.step hE; clear hE
    refine sv (yMove rfl) ?_
    refine sv (yExt rfl rfl) ?_
    refine sv (yExt rfl rfl) ?_
    refine sv (yAsg rfl) ?_
    refine sv (yAsg rfl) ?_
    refine nil ?_
    show Code.wp _ _ _ _ _
    refine seq ?_
    refine region ?_
    refine sv (yMove rfl) ?_
    refine sv (yMove rfl) ?_
    refine sv (yAsg rfl) ?_
    refine sv (yAsg rfl) ?_
    refine nil ?_
    show Code.wp _ _ _ _ _
    refine wp_ret ?_
    exact retV (res2 rfl rfl rfl) hS.ext
set_option maxHeartbeats 1000000 in
/-- slices.Repeat   int,int  -/
theorem c_Repeat {k b : Nat} {w0 : World} (hk : k ≤ 8) (hb : w0.heap[b]? = some (.cells ([.int .i64 (-1)] : List Value).toArray 3 (0, 0))) : CE Tryz.prog 36 #[.slice (some ⟨b, 0, none⟩) 1 1, .int .i64 (k : Int)] w0 (fun u w' => St w0 w' [rowI u 3 1 k (List.replicate k (.int .i64 (-1)))]) := by
  refine enter Tryz.func36 rfl Tryz.ntmps36 rfl ?_
  have hS := St.start w0
  refine seq ?_
  refine region ?_
  refine sv (yAsg rfl) ?_
  refine nil ?_
  show Code.wp _ _ _ _ _
  refine seq ?_
  refine seq ?_
  refine region ?_
  refine sv (yMove rfl) ?_
  refine sv (yLss rfl rfl) ?_
  refine nil ?_
  show Code.wp _ _ _ _ _
  refine cond rfl (fun c10 => ?_) (fun c10 => ?_)
  ·
    simp only [Bool.and_eq_true, Bool.or_eq_true, Bool.and_eq_false_iff, Bool.or_eq_false_iff, decide_eq_true_eq, decide_eq_false_iff_not, Bool.not_eq_true, Bool.not_eq_false, Bool.not_not, Bool.not_eq_eq_eq_not, Bool.not_true, Bool.not_false, Bool.false_eq_true, Bool.true_eq_false, ne_eq, Decidable.not_not, not_false_eq_true, not_true_eq_false] at c10
    exfalso; omega
  ·
    simp only [Bool.and_eq_true, Bool.or_eq_true, Bool.and_eq_false_iff, Bool.or_eq_false_iff, decide_eq_true_eq, decide_eq_false_iff_not, Bool.not_eq_true, Bool.not_eq_false, Bool.not_not, Bool.not_eq_eq_eq_not, Bool.not_true, Bool.not_false, Bool.false_eq_true, Bool.true_eq_false, ne_eq, Decidable.not_not, not_false_eq_true, not_true_eq_false] at c10
    refine skip ?_
    show Code.wp _ _ _ _ _
    refine seq ?_
    refine region ?_
    refine sv (yMove rfl) ?_
    refine sv (yLen rfl Tryz.underlying37) ?_
    refine sv (yToU rfl Tryz.underlying3 Tryz.underlying118 ⟨by omega, by omega⟩) ?_
    refine sv (yMove rfl) ?_
    refine sv (yToU rfl Tryz.underlying3 Tryz.underlying118 ⟨by omega, by omega⟩) ?_
    refine scall Tryz.call61 (.cons rfl (.cons rfl .nil)) (c_Mul hk) ?_
    rintro _ w ⟨rfl, hE⟩; replace hS := hS.step hE; clear hE
    refine sv (yMove rfl) ?_
    refine sv (yExt rfl rfl) ?_
    refine sv (yExt rfl rfl) ?_
    refine sv (yAsg rfl) ?_
    refine sv (yAsg rfl) ?_
    refine nil ?_
    show Code.wp _ _ _ _ _
    refine seq ?_
    refine seq ?_
    refine region ?_
    refine sv (yMove rfl) ?_
    refine sv (yGtr rfl rfl) ?_
    refine sv (yMove rfl) ?_
    refine sg rfl rfl rfl (fun g => (yMove rfl)) (fun v24 g24 => ?_)
    refine sg rfl rfl rfl (fun g => (yGtr (g24.1 g) rfl)) (fun v25 g25 => ?_)
    refine sv (yOr rfl rfl (fun hB => (g25.1 hB))) ?_
    refine nil ?_
    show Code.wp _ _ _ _ _
    refine cond rfl (fun c26 => ?_) (fun c26 => ?_)
    ·
      simp only [Bool.and_eq_true, Bool.or_eq_true, Bool.and_eq_false_iff, Bool.or_eq_false_iff, decide_eq_true_eq, decide_eq_false_iff_not, Bool.not_eq_true, Bool.not_eq_false, Bool.not_not, Bool.not_eq_eq_eq_not, Bool.not_true, Bool.not_false, Bool.false_eq_true, Bool.true_eq_false, ne_eq, Decidable.not_not, not_false_eq_true, not_true_eq_false] at c26
      exfalso; omega
    ·
      simp only [Bool.and_eq_true, Bool.or_eq_true, Bool.and_eq_false_iff, Bool.or_eq_false_iff, decide_eq_true_eq, decide_eq_false_iff_not, Bool.not_eq_true, Bool.not_eq_false, Bool.not_not, Bool.not_eq_eq_eq_not, Bool.not_true, Bool.not_false, Bool.false_eq_true, Bool.true_eq_false, ne_eq, Decidable.not_not, not_false_eq_true, not_true_eq_false] at c26
      refine skip ?_
      show Code.wp _ _ _ _ _
      refine seq ?_
      refine region ?_
      refine sv (yMove rfl) ?_
      refine sv (yToI rfl Tryz.underlying118 Tryz.underlying3 ⟨by omega, by omega⟩) ?_
      refine smake (bytes := 8) (zs := [.int .i64 0]) (m := k) hS rfl rfl Tryz.underlying37 ti3 rfl rfl rfl rfl rfl (by omega) (by omega) ?_; clear hS; intro b30 w hS
      refine sv (yAsg rfl) ?_
      refine nil ?_
      show Code.wp _ _ _ _ _
      refine seq ?_
      refine region ?_
      rw [repC_zero] at hS
      refine sv (yMove rfl) ?_
      refine sv (yMove rfl) ?_
      refine scopyB (news := List.replicate (min 1 k) (.int .i64 (-1))) hS rfl rfl Tryz.underlying37 (by rw [ti3]; rfl) (by rw [List.length_replicate]) (rep_src (by omega) (hS.ext.get hb)) (by rw [repC_len (Nat.zero_le _), List.length_replicate]; omega) (rep_one _) ?_; clear hS; intro w hS; rw [repC_copy (by omega), Nat.zero_add] at hS
      refine sv (yAsg rfl) ?_
      refine nil ?_
      show Code.wp _ _ _ _ _
      refine seq ?_
      refine block ?_
      refine loop (fun f w zz => ∃ (j : Nat), f 7 = .slice (some ⟨b30, 0, none⟩) k k ∧ f 8 = .int .i64 (j : Int) ∧ StX [] w0 w [blk b30 (repC j k) 3] ∧ (j ≤ k ∧ (k = 0 ∨ 1 ≤ j)) ∧ zz = k - j) _ ⟨_, rfl, min 1 k, rfl, rfl.trans (congrArg (fun (x : Nat) => Value.int .i64 (x : Int)) List.length_replicate), hS, (⟨by omega, by omega⟩), rfl⟩ ?_
      clear hS
      rintro f w _ ⟨j, h7, h8, hS, hj, rfl⟩
      refine seq ?_
      refine seq ?_
      refine region ?_
      refine sv (yMove h8) ?_
      refine sv (yMove h7) ?_
      refine sv (yLen rfl Tryz.underlying37) ?_
      refine sv (yLss rfl rfl) ?_
      refine nil ?_
      show Code.wp _ _ _ _ _
      refine cond rfl (fun c37 => ?_) (fun c37 => ?_)
      ·
        simp only [Bool.and_eq_true, Bool.or_eq_true, Bool.and_eq_false_iff, Bool.or_eq_false_iff, decide_eq_true_eq, decide_eq_false_iff_not, Bool.not_eq_true, Bool.not_eq_false, Bool.not_not, Bool.not_eq_eq_eq_not, Bool.not_true, Bool.not_false, Bool.false_eq_true, Bool.true_eq_false, ne_eq, Decidable.not_not, not_false_eq_true, not_true_eq_false] at c37
        refine skip ?_
        show Code.wp _ _ _ _ _
        refine block ?_
        refine region_mix (fun w => StX [] w0 w []) 10 mixed hS ?_
        clear hS; intro w hS
        refine f_step 0 (by kernel_rfl) rfl (fun c a a' w h => by obtain ⟨_, v, hv, _⟩ := h; cases hv) (hS.sub (List.nil_sublist _)) (fun w hS => (yMove h8)) ?_
        refine f_step 1 (by kernel_rfl) rfl (fun c a a' w h => by obtain ⟨_, v, hv, _⟩ := h; cases hv) (hS.sub (List.nil_sublist _)) (fun w hS => (yMove h7)) ?_
        refine f_step 2 (by kernel_rfl) rfl (fun c a a' w h => by obtain ⟨_, v, hv, _⟩ := h; cases hv) (hS.sub (List.nil_sublist _)) (fun w hS => (yMove h8)) ?_
        refine f_step 3 (by kernel_rfl) rfl (fun c a a' w h => by obtain ⟨_, v, hv, _⟩ := h; cases hv) (hS.sub (List.nil_sublist _)) (fun w hS => (yTailLt rfl rfl Tryz.underlying37 Tryz.sizeOf3 (by omega) (by omega))) ?_
        refine f_step 4 (by kernel_rfl) rfl (fun c a a' w h => by obtain ⟨_, v, hv, _⟩ := h; cases hv) (hS.sub (List.nil_sublist _)) (fun w hS => (yMove h7)) ?_
        refine f_step 5 (by kernel_rfl) rfl (fun c a a' w h => by obtain ⟨_, v, hv, _⟩ := h; cases hv) (hS.sub (List.nil_sublist _)) (fun w hS => (yMove h8)) ?_
        refine f_step 6 (by kernel_rfl) rfl (fun c a a' w h => by obtain ⟨_, v, hv, _⟩ := h; cases hv) (hS.sub (List.nil_sublist _)) (fun w hS => (yHead ⟨_, rfl⟩ rfl rfl Tryz.underlying37 Tryz.sizeOf3 (by omega))) ?_
        show wpA _ _ _ _ _ _ _ _ _ _
        refine a_step (i := 7) (is := []) (by kernel_rfl) ⟨?_, trivial⟩
        refine ⟨_, rfl, ?_⟩
        refine scopyB (news := List.replicate (min j (k - j)) (.int .i64 (-1))) hS rfl rfl Tryz.underlying37 (by rw [ti3]; rfl) (by rw [List.length_replicate]) (rep_src2 (by omega) (hS.at b30)) (by rw [repC_len hj.1, List.length_replicate]; omega) (rep_one _) ?_; clear hS; intro w hS; rw [Nat.mul_one, repC_copy (by omega)] at hS
        refine nil ?_
        refine ⟨fun _ => (hS.sub (List.nil_sublist _)), ?_⟩
        show wpA _ _ _ _ _ _ _ _ _ _
        refine f_step 8 (by kernel_rfl) rfl (fun c a a' w h => by obtain ⟨_, v, hv, _⟩ := h; cases hv) (hS.sub (List.nil_sublist _)) (fun w hS => (Y.to (yAdd rfl rfl ⟨by rw [List.length_replicate]; omega, by rw [List.length_replicate]; omega⟩) (congrArg (fun (x : Nat) => Value.int .i64 ((j : Int) + (x : Int))) List.length_replicate))) ?_
        refine f_step 9 (by kernel_rfl) rfl (fun c a a' w h => by obtain ⟨_, v, hv, _⟩ := h; cases hv) (hS.sub (List.nil_sublist _)) (fun w hS => (yAsg rfl)) ?_
        refine a_end (by kernel_rfl) ?_
        exact ⟨_, _, rfl, ⟨j + min j (k - j), h7, rfl, hS, (⟨by omega, by omega⟩), rfl⟩, by omega⟩
      ·
        simp only [Bool.and_eq_true, Bool.or_eq_true, Bool.and_eq_false_iff, Bool.or_eq_false_iff, decide_eq_true_eq, decide_eq_false_iff_not, Bool.not_eq_true, Bool.not_eq_false, Bool.not_not, Bool.not_eq_eq_eq_not, Bool.not_true, Bool.not_false, Bool.false_eq_true, Bool.true_eq_false, ne_eq, Decidable.not_not, not_false_eq_true, not_true_eq_false] at c37
        refine exit ?_
        show Code.wp _ _ _ _ _
        refine seq ?_
        refine region ?_
        refine sv (yMove h7) ?_
        refine sv (yAsg rfl) ?_
        refine nil ?_
        show Code.wp _ _ _ _ _
        refine wp_ret ?_
        refine retQ (res1 rfl rfl) ?_
        obtain rfl : j = k := by omega
        rw [repC_full] at hS
        exact hS.toRow 1 j (by simp) (by omega)
end Go.Proofs.YtghgnofilbnbaaaGreat

/- part LibQ -/
namespace Bx
open Go Go.RowKit
section
variable {P : Program} {ops : Array Oper} {Q : Exit → Act → World → Prop} {n : Nat} {f : Fr} {w w0 : World} {S : List Nat} {L L' : List Item} {rest : List Oper} {d : Nat} {ty : TypeId} {pos : String} {af : Array Edge} {ρ : Operand → Value}
theorem yIface {T : TypeId} {x : Operand} {v : Value} {k : IntKind} (hx : ρ x = v) (hT : P.underlying T = some (.int k)) : Y P ρ (.makeInterface T x) ty w (.iface T v) w := by
  simp [Y, xop, execOp, hx, Instr.makeInterface, run_underlying hT]
theorem spanic {x : Operand} {T : TypeId} {v : Value} (hx : ev n f x = .iface T v) (h : Q (.panic [{ v := .iface T v, recovered := false }]) (mk n f) w) : wpL P ops Q n (⟨none, .panic x, ty, pos, af, none⟩ :: rest) f w := by
  refine wpL_run rfl ?_
  unfold Oper.wp
  have hr : (xop (ev n f) (.panic x) ty).run P w = .halt (.panic (.iface T v)) w := by
    simp [xop, execOp, hx, Instr.panic, goPanic]
    try rfl
  rw [mk_eval, execOp_xop, hr]
  exact h
/-- A statement that does not panic. -/
def noPan (Q : Exit → Act → World → Prop) : Exit → Act → World → Prop
  | .panic _, _, _ => False
  | e, a, w => Q e a w
theorem unP {a : Act} (h : Q .normal a w) : noPan Q .normal a w := h
theorem quietP {c : Code} {a : Act} (h : c.wp P (noPan Q) a w) : c.wp P Q a w := wp_mono h (by intro e a w h; cases e <;> first | exact h | exact h.elim)
end
end Bx

/- part C6 -/
namespace Bx
open Go Go.RowKit
theorem zeros1 (n : Nat) : (List.replicate n [Value.int .i64 0]).flatten = (List.replicate n (0 : Int)).flatMap encI := by
  induction n with
  | zero => rfl
  | succ n ih => rw [List.replicate_succ, List.flatten_cons, ih, List.replicate_succ, List.flatMap_cons]; rfl
theorem zerosH (hold by_ keys : List Int) : (List.replicate by_.length [Value.int .i64 0]).flatten = (foldH hold by_ (keys.take 0)).flatMap encI := zeros1 _
theorem flatI_get {l : List Int} {i : Nat} (h : i < l.length) : (l.flatMap encI)[i]? = some (.int .i64 (l.getD i 0)) := by
  rw [flatI, List.getElem?_map, List.getElem?_eq_getElem h, List.getD_eq_getElem?_getD, List.getElem?_eq_getElem h]
  rfl
theorem flatI_len (l : List Int) : (l.flatMap encI).length = l.length := by rw [flatI]; simp
theorem flatI_set {l : List Int} {i : Nat} {x : Int} (h : i < l.length) : splice (l.flatMap encI) (0 + i * 1) [.int .i64 x] = (l.set i x).flatMap encI := by
  rw [flatI, flatI, Nat.mul_one, Nat.zero_add, List.map_set]
  unfold splice
  rw [List.set_eq_take_append_cons_drop, if_pos (by simpa using h), List.append_assoc]
  rfl
theorem modify_set {l : List Int} {i : Nat} (h : i < l.length) (f : Int → Int) : l.modify i f = l.set i (f (l.getD i 0)) := by
  rw [List.modify_eq_set, List.getElem?_eq_getElem h, List.getD_eq_getElem?_getD, List.getElem?_eq_getElem h]
  rfl
theorem idxF_lt {α : Type} (p : α → Bool) : ∀ (l : List α) (i : Int), 0 ≤ i → idxF p l i < i + l.length
  | [], i, h => by simp [idxF]; omega
  | x :: l, i, h => by
    unfold idxF
    split
    · simp only [List.length_cons]; omega
    · have := idxF_lt p l (i + 1) (by omega)
      simp only [List.length_cons]; omega
theorem idxI_lt (by_ : List Int) (g : Int) : idxI by_ g < by_.length := by have := idxF_lt (fun y => decide (g = y)) by_ 0 (Int.le_refl _); simpa using this
theorem allH_in {hold by_ keys : List Int} {k : Nat} {u g : Int} (h : keys[k]? = some u) (hg : holdAt hold u = g) (hi : ¬ idxI by_ g < 0) : allH hold by_ (keys.take (k + 1)) = allH hold by_ (keys.take k) := by
  unfold allH; rw [take_snoc h, List.all_append, List.all_cons, List.all_nil, hg, decide_eq_true (by omega : 0 ≤ idxI by_ g), Bool.and_true, Bool.and_true]
theorem allH_out {hold by_ keys : List Int} {k : Nat} {u g : Int} (h : keys[k]? = some u) (hg : holdAt hold u = g) (hi : idxI by_ g < 0) : allH hold by_ (keys.take (k + 1)) = false := by
  unfold allH; rw [take_snoc h, List.all_append, List.all_cons, List.all_nil, hg, decide_eq_false (by omega : ¬ 0 ≤ idxI by_ g), Bool.false_and, Bool.and_false]
theorem holdAt_hit {hold : List Int} {q : Nat} {g : Int} (h : hold[q]? = some g) : holdAt hold (q : Int) = g := by unfold holdAt; rw [Int.toNat_natCast, getD_hit h]
theorem getD_bd {l : List Int} {b : Int} (h : ∀ x ∈ l, 0 ≤ x ∧ x ≤ b) (i : Nat) (hb : 0 ≤ b := by omega) : 0 ≤ l.getD i 0 ∧ l.getD i 0 ≤ b := by
  rw [List.getD_eq_getElem?_getD]
  cases hi : l[i]? with
  | none => exact ⟨Int.le_refl _, hb⟩
  | some x => exact h x (List.mem_of_getElem? hi)
end Bx
namespace Bx
open Go Go.RowKit
/-! ### what an act in the room leaves -/
def Done (F : Int × Rm) (I : Rm → Value → List Item) (w0 : World) (L : List Item) (e : Ending) (w : World) : Prop := ∃ rv, e = (if F.1 = 0 then .returned (.tuple #[]) else .panicked (pE 29 F.1)) ∧ StX [] w0 w (I F.2 rv ++ L)
theorem Done.bad {F : Int × Rm} {I : Rm → Value → List Item} {w0 w : World} {L : List Item} {e : Int} {st : Rm} {rv : Value} (h : F = (e, st)) (h0 : e ≠ 0) (hS : StX [] w0 w (I st rv ++ L)) : Done F I w0 L (.panicked (pE 29 e)) w := by
  subst h; exact ⟨rv, by rw [if_neg h0], hS⟩
theorem Done.ok {F : Int × Rm} {I : Rm → Value → List Item} {w0 w : World} {L : List Item} {st : Rm} {rv : Value} (h : F = (0, st)) (hS : StX [] w0 w (I st rv ++ L)) : Done F I w0 L (.returned (.tuple #[])) w := by
  subst h; exact ⟨rv, by rw [if_pos rfl], hS⟩
theorem panicE {R : Ending → World → Prop} {n : Nat} {f : Fr} {c : List PanicEntry} {w : World} (h : R (.panicked c) w) : (mk n f).defers = [] ∧ R (.panicked c) w := ⟨rfl, h⟩
theorem own_blk {w : World} {b k n : Nat} {cs : List Value} {T : TypeId} (hb : w.heap[b]? = some (.cells cs.toArray T (0, 0))) (hl : cs.length = n * k) (hn : n ≤ 1000000) : w.ownsRow 0 T k (.slice (some ⟨b, 0, none⟩) n n) n cs := by
  refine ⟨hl, .inr ⟨b, n, cs.toArray, rfl, Nat.zero_le _, hb, Nat.le_refl _, by simp only [maxLen]; omega, by simpa using hl, ?_⟩⟩
  show cs.take (n * k) = cs
  rw [← hl, List.take_length]
structure KndOk (nk : Int) (k : Knd) : Prop where
  grade : 1 ≤ k.grade ∧ k.grade ≤ 9
  second : 0 ≤ k.second ∧ k.second ≤ 9
  within : 0 ≤ k.within ∧ k.within ≤ 1000
  sw : k.second = 0 → k.within ≤ 0
  keys : ∀ x ∈ k.keys, 0 ≤ x ∧ x < nk
  nodup : k.keys.Nodup
  split : k.split = true → k.second ≠ 0 ∧ 2 ≤ k.keys.length
theorem kndOk_of {nk : Int} {k : Knd} (h : kndE nk k = 0) : KndOk nk k := by
  unfold kndE at h
  split at h
  · cases h
  split at h
  · cases h
  split at h
  · cases h
  split at h
  · cases h
  rename_i h1 h2 h3 h4
  simp only [kndR, kndS, Bool.not_eq_true, Bool.or_eq_false_iff, outB_false, Bool.and_eq_false_iff, decide_eq_false_iff_not, List.any_eq_false] at h1 h2 h4
  refine ⟨h1.1.1.1, h1.1.1.2, h1.1.2, fun e => by omega, fun x hx => ?_, Decidable.not_not.1 h3, fun e => ?_⟩
  · have := h2 x hx
    omega
  · rcases h4 with h4 | h4
    · rw [e] at h4; cases h4
    · omega
theorem ordRow (v : Value) (l : List Ord) (o : Ord) : rowI v 66 5 (l.length + 1) (l.flatMap ordC ++ ordC o) = rowI v 66 5 (l ++ [o]).length ((l ++ [o]).flatMap ordC) := by rw [List.flatMap_append, List.length_append]; simp
theorem oprGrade {c : Crew} {u : Opr} {i : Int} {k : Nat} (hi : i = k) (h : c.ops[k]? = some u) : gradeOf c i = u.grade := by unfold gradeOf oprAt; rw [hi, Int.toNat_natCast, getD_hit h]
theorem kndAt_hit {c : Crew} {z : Knd} {i : Int} {k : Nat} (hi : i = k) (h : c.kinds[k]? = some z) : kndAt c i = z := by unfold kndAt; rw [hi, Int.toNat_natCast, getD_hit h]
theorem actAt_hit {acts : List Acn} {z : Acn} {i : Int} {k : Nat} (hi : i = k) (h : acts[k]? = some z) : actAt acts i = z := by unfold actAt; rw [hi, Int.toNat_natCast, getD_hit h]
theorem RmOk.hold64 {c : Crew} {acts : List Acn} {i : Nat} {st : Rm} (h : RmOk c acts i st) (hc : CrewOk c) : ∀ x ∈ st.hold, I64 x := fun x hx => by
  have := h.hold x hx; have := hc.nops; exact ⟨by omega, by omega⟩
theorem RmOk.new {c : Crew} {acts : List Acn} {i : Nat} {st : Rm} (h : RmOk c acts i st) : (i : Int) ∉ st.opn := fun hm => by have := h.opn _ hm; omega
end Bx
namespace Bx
open Go Go.RowKit
theorem cancelF_e {c : Crew} {acts : List Acn} {x : Acn} {st : Rm} {e : Int} (h : cancE c acts x st = e) (h0 : e ≠ 0 := by decide) : cancelF c acts x st = (e, st) := by unfold cancelF; rw [h, if_pos h0]
theorem cancelF_ok {c : Crew} {acts : List Acn} {x : Acn} {st : Rm} (h : cancE c acts x st = 0) : cancelF c acts x st = (0, { st with opn := st.opn.erase x.what }) := by unfold cancelF; rw [h, if_neg (by decide)]
theorem confirmF_e {c : Crew} {acts : List Acn} {i e : Int} {x : Acn} {st : Rm} (h : confE c acts x st = e) (h0 : e ≠ 0 := by decide) : confirmF c acts i x st = (e, st) := by unfold confirmF; rw [h, if_pos h0]
theorem confirmF_ok {c : Crew} {acts : List Acn} {i : Int} {x z : Acn} {st : Rm} (h : confE c acts x st = 0) (hz : actAt acts x.what = z) : confirmF c acts i x st = (0, { st with opn := st.opn.erase x.what, ords := st.ords ++ [⟨x.what, i, z.what, z.subj, x.tm⟩] }) := by unfold confirmF; rw [h, if_neg (by decide), hz]
end Bx
namespace Bx
open Go Go.RowKit
theorem two64 {a b : Int} (ha : I64 a) (hb : I64 b) : ∀ s ∈ [a, b], I64 s := by
  intro s hs
  simp only [List.mem_cons, List.not_mem_nil, or_false] at hs
  rcases hs with rfl | rfl
  · exact ha
  · exact hb
end Bx

/- part Ck13 -/
namespace Go.Proofs.YtghgnofilbnbaaaGreat
open Go Bx
/-- barrage/crew.demand -/
theorem c_demand  : Dem Tryz.prog 63 29 := by
  intro b e w0
  refine enterE Tryz.func63 rfl Tryz.ntmps63 rfl ?_
  have hS := St.start w0
  refine seq ?_
  refine region ?_
  refine sv (yMove rfl) ?_
  refine sv (yNot rfl) ?_
  refine nil ?_
  show Code.wp _ _ _ _ _
  refine cond rfl (fun c5 => ?_) (fun c5 => ?_)
  ·
    simp only [Bool.and_eq_true, Bool.or_eq_true, Bool.and_eq_false_iff, Bool.or_eq_false_iff, decide_eq_true_eq, decide_eq_false_iff_not, Bool.not_eq_true, Bool.not_eq_false, Bool.not_not, Bool.not_eq_eq_eq_not, Bool.not_true, Bool.not_false, Bool.false_eq_true, Bool.true_eq_false, ne_eq, Decidable.not_not, not_false_eq_true, not_true_eq_false] at c5
    obtain rfl : b = false := by cases b; rfl; cases c5
    refine region ?_
    refine sv (yMove rfl) ?_
    refine sv (yIface rfl Tryz.underlying29) ?_
    exact spanic rfl ⟨rfl, .inr ⟨rfl, rfl, hS.ext⟩⟩
  ·
    simp only [Bool.and_eq_true, Bool.or_eq_true, Bool.and_eq_false_iff, Bool.or_eq_false_iff, decide_eq_true_eq, decide_eq_false_iff_not, Bool.not_eq_true, Bool.not_eq_false, Bool.not_not, Bool.not_eq_eq_eq_not, Bool.not_true, Bool.not_false, Bool.false_eq_true, Bool.true_eq_false, ne_eq, Decidable.not_not, not_false_eq_true, not_true_eq_false] at c5
    refine skip ?_
    show bodyPost _ _ _ _ _ _
    obtain rfl : b = true := by cases b; cases c5; rfl
    exact ⟨rfl, _, (results_none rfl _ _ _), .inl ⟨rfl, rfl, hS.ext⟩⟩
end Go.Proofs.YtghgnofilbnbaaaGreat

/- part Ck14 -/
namespace Go.Proofs.YtghgnofilbnbaaaGreat
open Go Bx
set_option maxHeartbeats 1000000 in
/-- (*barrage/crew.room).held -/
theorem c_held {p : Nat} {hold keys by_ : List Int} {rc : List Value} {hv kv bv : Value} {T : TypeId} {w0 : World} (hp : w0.heap[p]? = some (.cells rc.toArray T (0, 0))) (h5 : rc[5]? = some hv) (hh : Sl w0 1 RInt hv hold) (hk : Sl w0 1 RInt kv keys) (hb : Sl w0 1 RInt bv by_) (hok : ∀ k ∈ keys, 0 ≤ k ∧ k < hold.length) (hl : keys.length ≤ 140737488351232) (hl2 : by_.length ≤ 1000) : CE Tryz.prog 86 #[.pointer (some ⟨p, 0, none⟩), kv, bv] w0 (fun u w' => ∃ ev, u = .tuple #[.bool (allH hold by_ keys), ev] ∧ St w0 w' [rowI ev 3 1 by_.length ((foldH hold by_ keys).flatMap Bx.encI)]) := by
  obtain ⟨ah, ch, rfl, hhc, hhm, helh⟩ := id hh
  obtain ⟨ak, ck, rfl, hkc, hkm, helk⟩ := id hk
  obtain ⟨ab, cb, rfl, hbc, hbm, helb⟩ := id hb
  refine enter Tryz.func86 rfl Tryz.ntmps86 rfl ?_
  have hS := St.start w0
  refine seq ?_
  refine region ?_
  refine sv (yAsg rfl) ?_
  refine sv (yAsg rfl) ?_
  refine nil ?_
  show Code.wp _ _ _ _ _
  refine seq ?_
  refine region_mix (fun w => StX [] w0 w []) 5 mixed hS ?_
  clear hS; intro w hS
  refine f_step 0 (by kernel_rfl) rfl (fun c a a' w h => by obtain ⟨_, v, hv, _⟩ := h; cases hv) (hS.sub (List.nil_sublist _)) (fun w hS => (yMove rfl)) ?_
  refine f_step 1 (by kernel_rfl) rfl (fun c a a' w h => by obtain ⟨_, v, hv, _⟩ := h; cases hv) (hS.sub (List.nil_sublist _)) (fun w hS => (yLen rfl Tryz.underlying37)) ?_
  refine f_step 3 (by kernel_rfl) rfl (fun c a a' w h => by obtain ⟨_, v, hv, _⟩ := h; cases hv) (hS.sub (List.nil_sublist _)) (fun w hS => (yAsg rfl)) ?_
  show wpA _ _ _ _ _ _ _ _ _ _
  refine a_step (i := 2) (is := []) (by kernel_rfl) ⟨?_, trivial⟩
  refine ⟨_, rfl, ?_⟩
  refine smake (bytes := 8) (zs := [.int .i64 0]) (m := by_.length) hS rfl rfl Tryz.underlying37 ti3 rfl rfl rfl rfl rfl (by omega) (by omega) ?_; clear hS; intro b13 w hS
  refine nil ?_
  refine ⟨fun _ => (hS.sub (List.nil_sublist _)), ?_⟩
  show wpA _ _ _ _ _ _ _ _ _ _
  refine f_step 4 (by kernel_rfl) rfl (fun c a a' w h => by obtain ⟨_, v, hv, _⟩ := h; cases hv) (hS.sub (List.nil_sublist _)) (fun w hS => (yAsg rfl)) ?_
  refine a_end (by kernel_rfl) ?_
  show Code.wp _ _ _ _ _
  refine seq ?_
  refine seq ?_
  refine region ?_
  rw [zerosH hold by_ keys] at hS
  replace hS := hS.toRow 1 by_.length (by rw [flatI_len, foldH_len, Nat.mul_one]) (by omega)
  refine sv (yMove rfl) ?_
  refine sv (yLen rfl Tryz.underlying37) ?_
  refine sv (yMove rfl) ?_
  refine nil ?_
  show Code.wp _ _ _ _ _
  refine block ?_
  refine loop (fun f w zz => ∃ (k : Nat), f 0 = .pointer (some ⟨p, 0, none⟩) ∧ f 2 = .slice ab by_.length cb ∧ f 6 = .bool (allH hold by_ (keys.take k)) ∧ f 7 = .slice (some ⟨b13, 0, none⟩) by_.length by_.length ∧ f 14 = .slice ak keys.length ck ∧ f 15 = .int .i64 (keys.length : Int) ∧ f 16 = .int .i64 (k : Int) ∧ StX [] w0 w [rowI (.slice (some ⟨b13, 0, none⟩) by_.length by_.length) 3 1 by_.length ((foldH hold by_ (keys.take k)).flatMap Bx.encI)] ∧ (k ≤ keys.length) ∧ zz = keys.length - k) _ ⟨_, rfl, 0, rfl, rfl, rfl, rfl, rfl, rfl, rfl, hS, (Nat.zero_le _), rfl⟩ ?_
  clear hS
  rintro f w _ ⟨k, h0, h2, h6, h7, h14, h15, h16, hS, hk, rfl⟩
  refine seq ?_
  refine region ?_
  refine sv (yLss h16 h15) ?_
  refine nil ?_
  show Code.wp _ _ _ _ _
  refine seq ?_
  refine cond rfl (fun c17 => ?_) (fun c17 => ?_)
  ·
    simp only [Bool.and_eq_true, Bool.or_eq_true, Bool.and_eq_false_iff, Bool.or_eq_false_iff, decide_eq_true_eq, decide_eq_false_iff_not, Bool.not_eq_true, Bool.not_eq_false, Bool.not_not, Bool.not_eq_eq_eq_not, Bool.not_true, Bool.not_false, Bool.false_eq_true, Bool.true_eq_false, ne_eq, Decidable.not_not, not_false_eq_true, not_true_eq_false] at c17
    refine skip ?_
    show Code.wp _ _ _ _ _
    refine seq ?_
    refine block ?_
    refine seq ?_
    refine region ?_
    obtain ⟨u, hxq, hdq⟩ := drop_of (l := keys) (k := k) (by omega)
    obtain ⟨bq, oq, csq, haq, hlenq, hcsq, hRq⟩ := helk (k) (by omega)
    obtain rfl : u = keys[k] := (List.getElem?_eq_some_iff.1 hxq).2.symm
    generalize keys[k] = u at hxq hdq hRq
    obtain ⟨rfl, -⟩ := hRq
    have hu := hok u (List.mem_of_getElem? hxq)
    obtain ⟨q, rfl⟩ := Int.eq_ofNat_of_zero_le hu.1
    obtain ⟨g, hxs, hds⟩ := drop_of (l := hold) (k := q) (by omega)
    obtain ⟨bs, os, css, has, hlens, hcss, hRs⟩ := helh (q) (by omega)
    obtain rfl : g = hold[q] := (List.getElem?_eq_some_iff.1 hxs).2.symm
    generalize hold[q] = g at hxs hds hRs
    obtain ⟨rfl, hgi⟩ := hRs
    refine sv (yIxa h14 haq h16 Tryz.runUnderlying37 Tryz.sizeOf3 (by omega) (by omega)) ?_
    refine sv (yLd rfl Tryz.isAgg3 ((hcsq.ext hS.ext).at (j := 0) rfl)) ?_
    refine sv (yAsg rfl) ?_
    refine nil ?_
    show Code.wp _ _ _ _ _
    refine seq ?_
    refine region ?_
    refine sv (yMove h2) ?_
    refine sv (yMove h0) ?_
    refine sv (yNil rfl) ?_
    refine sv (fa64_3 rfl) ?_
    refine sv (yLd rfl Tryz.isAgg37 (cell_of (hS.ext.get hp) h5)) ?_
    refine sv (yMove rfl) ?_
    refine sv (yIxa rfl has rfl Tryz.runUnderlying37 Tryz.sizeOf3 (by omega) (by omega)) ?_
    refine sv (yLd rfl Tryz.isAgg3 ((hcss.ext hS.ext).at (j := 0) rfl)) ?_
    refine scall Tryz.call96 (.cons rfl (.cons rfl .nil)) (c_IndexI (hb.ext RInt.stays hS.ext)) ?_
    rintro _ w ⟨rfl, hE⟩; replace hS := hS.step hE; clear hE
    refine sv (yAsg rfl) ?_
    refine nil ?_
    show Code.wp _ _ _ _ _
    refine seq ?_
    refine region ?_
    refine sv (yMove rfl) ?_
    refine sv (yLss rfl rfl) ?_
    refine nil ?_
    show Code.wp _ _ _ _ _
    refine cond rfl (fun c30 => ?_) (fun c30 => ?_)
    ·
      simp only [Bool.and_eq_true, Bool.or_eq_true, Bool.and_eq_false_iff, Bool.or_eq_false_iff, decide_eq_true_eq, decide_eq_false_iff_not, Bool.not_eq_true, Bool.not_eq_false, Bool.not_not, Bool.not_eq_eq_eq_not, Bool.not_true, Bool.not_false, Bool.false_eq_true, Bool.true_eq_false, ne_eq, Decidable.not_not, not_false_eq_true, not_true_eq_false] at c30
      refine region ?_
      refine sv (yAsg rfl) ?_
      refine nil ?_
      show Code.wp _ _ _ _ _
      refine region ?_
      refine sv (yAdd h16 rfl ⟨by omega, by omega⟩) ?_
      refine sv (yMove rfl) ?_
      refine nil ?_
      exact ⟨_, _, rfl, ⟨k + 1, h0, h2, rfl.trans (congrArg Value.bool (allH_out hxq (holdAt_hit hxs) c30).symm), h7, h14, h15, rfl, (by rw [foldH_take hxq, stepH, holdAt_hit hxs, if_pos c30]; exact hS), (by omega), rfl⟩, by omega⟩
    ·
      simp only [Bool.and_eq_true, Bool.or_eq_true, Bool.and_eq_false_iff, Bool.or_eq_false_iff, decide_eq_true_eq, decide_eq_false_iff_not, Bool.not_eq_true, Bool.not_eq_false, Bool.not_not, Bool.not_eq_eq_eq_not, Bool.not_true, Bool.not_false, Bool.false_eq_true, Bool.true_eq_false, ne_eq, Decidable.not_not, not_false_eq_true, not_true_eq_false] at c30
      have hlt := idxI_lt by_ g
      refine region ?_
      refine sv (yMove h7) ?_
      refine sv (yMove rfl) ?_
      refine sv (yIx rfl rfl Tryz.runUnderlying37 Tryz.sizeOf3 (by omega) (by omega)) ?_
      refine sv (yLd rfl Tryz.isAgg3 ((row_at (hS.row (.slice (some ⟨b13, 0, none⟩) by_.length by_.length)) rfl (by omega)).at (j := (idxI by_ g).toNat * 1) (flatI_get (by rw [foldH_len]; omega)))) ?_
      refine sv (yAdd rfl rfl (by have := foldH_bd hold by_ (keys.take k); have h9 : ∀ x ∈ foldH hold by_ (keys.take k), 0 ≤ x ∧ x ≤ 140737488351232 := (fun x hx => by have h8 := this x hx; rw [List.length_take] at h8; omega); have h7 := getD_bd h9 ((idxI by_ g).toNat * 1); exact ⟨by omega, by omega⟩)) ?_
      refine sv (yIx rfl rfl Tryz.runUnderlying37 Tryz.sizeOf3 (by omega) (by omega)) ?_
      refine srst (m := by_.length) (cap := by_.length) (sz := 1) (vs := [.int .i64 ((foldH hold by_ (keys.take k)).getD ((idxI by_ g).toNat * 1) 0 + 1)]) hS rfl rfl Tryz.sizeOf3 rfl rfl (by omega) rfl ?_; clear hS; intro w hS; rw [flatI_set (by rw [foldH_len]; omega)] at hS; simp only [Nat.mul_one] at hS
      refine nil ?_
      show Code.wp _ _ _ _ _
      refine region ?_
      refine sv (yAdd h16 rfl ⟨by omega, by omega⟩) ?_
      refine sv (yMove rfl) ?_
      refine nil ?_
      exact ⟨_, _, rfl, ⟨k + 1, h0, h2, h6.trans (congrArg Value.bool (allH_in hxq (holdAt_hit hxs) c30).symm), h7, h14, h15, rfl, (by rw [foldH_take hxq, stepH, holdAt_hit hxs, if_neg c30, modify_set (by rw [foldH_len]; omega)]; exact hS), (by omega), rfl⟩, by omega⟩
  ·
    simp only [Bool.and_eq_true, Bool.or_eq_true, Bool.and_eq_false_iff, Bool.or_eq_false_iff, decide_eq_true_eq, decide_eq_false_iff_not, Bool.not_eq_true, Bool.not_eq_false, Bool.not_not, Bool.not_eq_eq_eq_not, Bool.not_true, Bool.not_false, Bool.false_eq_true, Bool.true_eq_false, ne_eq, Decidable.not_not, not_false_eq_true, not_true_eq_false] at c17
    obtain rfl : k = keys.length := by omega
    refine exit ?_
    show Code.wp _ _ _ _ _
    refine seq ?_
    refine region ?_
    refine sv (yMove h6) ?_
    refine sv (yMove h7) ?_
    refine sv (yAsg rfl) ?_
    refine sv (yAsg rfl) ?_
    refine nil ?_
    show Code.wp _ _ _ _ _
    refine wp_ret ?_
    refine retQ (res2 rfl rfl rfl) ?_
    rw [List.take_length] at hS ⊢
    exact ⟨_, rfl, hS⟩
end Go.Proofs.YtghgnofilbnbaaaGreat

/- part Ck15 -/
namespace Go.Proofs.YtghgnofilbnbaaaGreat
open Go Bx
set_option maxHeartbeats 2000000 in
/-- (*barrage/crew.room).order -/
theorem c_order {c : Crew} {acts : List Acn} {i : Nat} {x : Acn} {st : Rm} {a an aa : Option Addr} {cap cn ca p b : Nat} {kv hv rv : Value} {L : List Bx.Item} {w0 w : World} (h : RCrew w0 [.slice a c.ops.length cap, kv, .slice an c.kinds.length cn] c) (hc : CrewOk c) (ha : Sl w0 6 RAct (.slice aa acts.length ca) acts) (hok : RmOk c acts i st) (hx : ActOk c i x) (hall : ∀ (j : Nat) y, acts[j]? = some y → ActOk c j y) (hi : i < acts.length) (hn : acts.length ≤ 60) (hS : StX [] w0 w (blk p [.slice a c.ops.length cap, kv, .slice an c.kinds.length cn, .slice aa acts.length ca, .int .i64 st.now, hv, .map (some b), rv] 64 :: rowI hv 3 1 (st.hold).length ((st.hold).flatMap Bx.encI) :: mapI b (Value.int .i64) (opM st.opn) :: rowI rv 66 5 (st.ords).length ((st.ords).flatMap ordC) :: L)) (hdw : x.dw = 4) : Calls Tryz.prog 65 #[.pointer (some ⟨p, 0, none⟩), .int .i64 (i : Int), .agg (actC x).toArray] w (Done (orderF c i x st) (fun (st : Rm) (rv : Value) => [blk p [.slice a c.ops.length cap, kv, .slice an c.kinds.length cn, .slice aa acts.length ca, .int .i64 st.now, hv, .map (some b), rv] 64, rowI hv 3 1 (st.hold).length ((st.hold).flatMap Bx.encI), mapI b (Value.int .i64) (opM st.opn), rowI rv 66 5 (st.ords).length ((st.ords).flatMap ordC)]) w0 L) := by
  obtain ⟨ov, kv2, nv2, he, hso, -, hsn, hrm⟩ := id h
  cases he
  obtain ⟨a', cap', hv', hcap, hmx, helo⟩ := id hso
  obtain ⟨rfl, rfl⟩ := slice_inj hv'.symm
  obtain ⟨an', cn', hv2, hncap, hnmx, heln⟩ := id hsn
  obtain ⟨rfl, rfl⟩ := slice_inj hv2.symm
  obtain ⟨aa', ca', hv3, hacap, hamx, hela⟩ := id ha
  obtain ⟨rfl, rfl⟩ := slice_inj hv3.symm
  have hops := hc.nops
  have hm : manyA c i x = c.kinds.length := if_pos hdw
  have hwh := hx.what
  rw [hm] at hwh
  refine enterE Tryz.func65 rfl Tryz.ntmps65 rfl ?_
  skip
  refine seq ?_
  refine region ?_
  refine sbox hS rfl rfl ?_; clear hS; intro b5 w hS
  refine nil ?_
  show Code.wp _ _ _ _ _
  refine seq ?_
  refine quietP ?_
  refine region_mix (fun w => StX [] w0 w (blk b5 [.int .i64 x.tm, .int .i64 x.who, .int .i64 x.dw, .int .i64 x.what, .int .i64 x.to, .int .i64 x.subj] 86 :: blk p [.slice a c.ops.length cap, kv, .slice an c.kinds.length cn, .slice aa acts.length ca, .int .i64 st.now, hv, .map (some b), rv] 64 :: rowI hv 3 1 (st.hold).length ((st.hold).flatMap Bx.encI) :: mapI b (Value.int .i64) (opM st.opn) :: rowI rv 66 5 (st.ords).length ((st.ords).flatMap ordC) :: L)) 11 mixed hS ?_
  clear hS; intro w hS
  obtain ⟨k, hk⟩ := Int.eq_ofNat_of_zero_le hwh.1
  have hk2 : k < c.kinds.length := by omega
  obtain ⟨z, hxq, hdq⟩ := drop_of (l := c.kinds) (k := k) (by omega)
  obtain ⟨bq, oq, csq, haq, hlenq, hcsq, hRq⟩ := heln (k) (by omega)
  obtain rfl : z = c.kinds[k] := (List.getElem?_eq_some_iff.1 hxq).2.symm
  generalize c.kinds[k] = z at hxq hdq hRq
  obtain ⟨xvq, rfl, hnmq, hgrq, hseq, hwiq, hskq, hrzq⟩ := hRq
  obtain ⟨akq, ckq, rfl, -⟩ := id hskq
  have hz := kndAt_hit hk hxq
  refine f_step 0 (by kernel_rfl) rfl (fun _ _ _ _ h => False.elim h) (hS.sub (List.Sublist.refl _)) (fun w hS => (yMove rfl)) ?_
  refine f_step 1 (by kernel_rfl) rfl (fun _ _ _ _ h => False.elim h) (hS.sub (List.Sublist.refl _)) (fun w hS => (yNil rfl)) ?_
  refine f_step 2 (by kernel_rfl) rfl (fun _ _ _ _ h => False.elim h) (hS.sub (List.Sublist.refl _)) (fun w hS => (fa64_0 rfl)) ?_
  refine f_step 3 (by kernel_rfl) rfl (fun _ _ _ _ h => False.elim h) (hS.sub (List.Sublist.refl _)) (fun w hS => (fa26_2 rfl)) ?_
  refine f_step 4 (by kernel_rfl) rfl (fun _ _ _ _ h => False.elim h) (hS.sub (List.Sublist.refl _)) (fun w hS => (yLdB rfl Tryz.isAgg24 (hS.at _) rfl)) ?_
  refine f_step 5 (by kernel_rfl) rfl (fun _ _ _ _ h => False.elim h) (hS.sub (List.Sublist.refl _)) (fun w hS => (fa86_3 rfl)) ?_
  refine f_step 6 (by kernel_rfl) rfl (fun _ _ _ _ h => False.elim h) (hS.sub (List.Sublist.refl _)) (fun w hS => (yLdB rfl Tryz.isAgg3 (hS.at _) rfl)) ?_
  refine f_step 7 (by kernel_rfl) rfl (fun _ _ _ _ h => False.elim h) (hS.sub (List.Sublist.refl _)) (fun w hS => (yIxa rfl haq (rfl.trans (congrArg (Value.int .i64) hk)) Tryz.runUnderlying24 Tryz.sizeOf92 (by omega) (by omega))) ?_
  refine f_step 8 (by kernel_rfl) rfl (fun _ _ _ _ h => False.elim h) (hS.sub (List.Sublist.refl _)) (fun w hS => (yLdA rfl Tryz.isAgg92 Tryz.sizeOf92 (hcsq.ext hS.ext) rfl)) ?_
  show wpA _ _ _ _ _ _ _ _ _ _
  refine a_step (i := 9) (is := []) (by kernel_rfl) ⟨?_, trivial⟩
  refine ⟨_, rfl, ?_⟩
  refine salloc hS Tryz.zeroValue92 rfl ?_; clear hS; intro b6 w hS
  refine nil ?_
  refine ⟨fun _ => (hS.sub (.cons _ (List.Sublist.refl _))), ?_⟩
  show wpA _ _ _ _ _ _ _ _ _ _
  show wpA _ _ _ _ _ _ _ _ _ _
  refine a_step (i := 10) (is := []) (by kernel_rfl) ⟨?_, trivial⟩
  refine ⟨_, rfl, ?_⟩
  refine sst hS rfl rfl Tryz.sizeOf92 rfl rfl rfl rfl ?_; clear hS; intro w hS
  refine nil ?_
  refine ⟨fun _ => (hS.sub (.cons _ (List.Sublist.refl _))), ?_⟩
  show wpA _ _ _ _ _ _ _ _ _ _
  refine a_end (by kernel_rfl) ?_
  refine unP ?_
  show Code.wp _ _ _ _ _
  refine seq ?_
  refine region_tail mixed 13 (by kernel_rfl) hS ?_
  obtain ⟨q, hq⟩ := Int.eq_ofNat_of_zero_le hx.who.1
  have hq2 : q < c.ops.length := by have := hx.who.2; omega
  obtain ⟨u, hxo, hdo⟩ := drop_of (l := c.ops) (k := q) (by omega)
  obtain ⟨bo, oo, cso, hao, hleno, hcso, hRo⟩ := helo (q) (by omega)
  obtain rfl : u = c.ops[q] := (List.getElem?_eq_some_iff.1 hxo).2.symm
  generalize c.ops[q] = u at hxo hdo hRo
  obtain ⟨dvo, rfl, huno, hugo, hsdo, hrdo⟩ := hRo
  have hu := oprGrade hq hxo
  refine qv (fun w hS => (yMove rfl)) ?_
  refine qv (fun w hS => (yNil rfl)) ?_
  refine qv (fun w hS => (fa64_0 rfl)) ?_
  refine qv (fun w hS => (fa26_0 rfl)) ?_
  refine qv (fun w hS => (yLdB rfl Tryz.isAgg22 (hS.at _) rfl)) ?_
  refine qv (fun w hS => (fa86_1 rfl)) ?_
  refine qv (fun w hS => (yLdB rfl Tryz.isAgg3 (hS.at _) rfl)) ?_
  refine qv (fun w hS => (yIxa rfl hao (rfl.trans (congrArg (Value.int .i64) hq)) Tryz.runUnderlying22 Tryz.sizeOf97 (by omega) (by omega))) ?_
  refine qv (fun w hS => (fa97_1 rfl)) ?_
  refine qv (fun w hS => (yLd rfl Tryz.isAgg3 ((hcso.ext hS.ext).at (j := 1) rfl))) ?_
  refine qv (fun w hS => (fa92_1 rfl)) ?_
  refine qv (fun w hS => (yLdB rfl Tryz.isAgg3 (hS.at _) rfl)) ?_
  refine qv (fun w hS => (yGeq rfl rfl)) ?_
  clear hS; refine qtl (fun w hS => ?_)
  refine sdem c_demand Tryz.call63 rfl rfl (fun hB w' hE => (panicE (Done.bad (e := 203) (by unfold orderF; rw [hz, hu, if_pos (by have := of_decide_eq_false hB; omega)]) (by decide) ((hS.step hE).sub (.cons _ (.cons _ (List.Sublist.refl _))))))) (fun hB w hE => ?_); replace hS := hS.step hE; clear hE
  have hG : ¬ u.grade < z.grade := by have := of_decide_eq_true hB; omega
  refine nil ?_
  show Code.wp _ _ _ _ _
  refine seq ?_
  refine seq ?_
  refine region ?_
  refine sv (fa92_2 rfl) ?_
  refine sv (yLdB rfl Tryz.isAgg3 (hS.at _) rfl) ?_
  refine sv (yGtr rfl rfl) ?_
  refine nil ?_
  show Code.wp _ _ _ _ _
  refine cond rfl (fun c34 => ?_) (fun c34 => ?_)
  ·
    simp only [Bool.and_eq_true, Bool.or_eq_true, Bool.and_eq_false_iff, Bool.or_eq_false_iff, decide_eq_true_eq, decide_eq_false_iff_not, Bool.not_eq_true, Bool.not_eq_false, Bool.not_not, Bool.not_eq_eq_eq_not, Bool.not_true, Bool.not_false, Bool.false_eq_true, Bool.true_eq_false, ne_eq, Decidable.not_not, not_false_eq_true, not_true_eq_false] at c34
    refine seq ?_
    refine region ?_
    refine sv (yMove rfl) ?_
    refine sv (yNil rfl) ?_
    refine sv (fa64_4 rfl) ?_
    refine sv (yLdB rfl Tryz.isAgg62 (hS.at _) rfl) ?_
    refine sv (yMove rfl) ?_
    refine smapset (v := .bool true) (Value.int .i64) hS rfl rfl rfl Tryz.runUnderlying62 (keyInt Tryz.underlying3) ?_; clear hS; intro w hS
    refine nil ?_
    show Code.wp _ _ _ _ _
    refine wp_ret (thenR ?_)
    rw [setM_opM hok.new] at hS
    exact ⟨rfl, _, (results_none rfl _ _ _), Done.ok (by unfold orderF; rw [hz, hu, if_neg hG, if_pos c34]) (hS.sub (.cons _ (.cons _ (List.Sublist.refl _))))⟩
  ·
    simp only [Bool.and_eq_true, Bool.or_eq_true, Bool.and_eq_false_iff, Bool.or_eq_false_iff, decide_eq_true_eq, decide_eq_false_iff_not, Bool.not_eq_true, Bool.not_eq_false, Bool.not_not, Bool.not_eq_eq_eq_not, Bool.not_true, Bool.not_false, Bool.false_eq_true, Bool.true_eq_false, ne_eq, Decidable.not_not, not_false_eq_true, not_true_eq_false] at c34
    refine skip ?_
    show Code.wp _ _ _ _ _
    refine seq ?_
    refine region ?_
    refine sv (yMove rfl) ?_
    refine sv (fa92_4 rfl) ?_
    refine sv (yLdB rfl Tryz.isAgg37 (hS.at _) rfl) ?_
    refine sv (fa86_1 rfl) ?_
    refine sv (yLdB rfl Tryz.isAgg3 (hS.at _) rfl) ?_
    refine sbslice hS Tryz.underlying37 Tryz.sizeOf3 rfl Tryz.zeroValue3 rfl (.cons rfl rfl .nil) rfl ?_; clear hS; intro b46 w hS
    have hby : ∀ s ∈ [x.who], I64 s := fun s hs => by have := hx.who; rw [List.mem_singleton.1 hs]; exact ⟨by omega, by omega⟩
    have hkz := kndOk_of (hc.kinds z (List.mem_of_getElem? hxq))
    have hkeys : ∀ y ∈ z.keys, 0 ≤ y ∧ y < st.hold.length := fun y hy => by have := hkz.keys y hy; rw [hok.len]; exact this
    refine scall Tryz.call86 (.cons rfl (.cons rfl (.cons rfl .nil))) (c_held (keys := z.keys) (by_ := [x.who]) (hS.at p) rfl (sl_ints (hS.row hv) rfl (hok.hold64 hc)) (hskq.ext RInt.stays hS.ext) (sl_ints (own_blk (hS.at b46) rfl (by simp)) rfl hby) hkeys (by have h9 : z.keys.length * 8 ≤ 140737488351232 := hrzq; omega) (by simp)) ?_
    rintro _ w ⟨ev, rfl, hM⟩; replace hS := hS.call1 hM; clear hM
    refine sv (yMove rfl) ?_
    refine sv (yExt rfl rfl) ?_
    refine sv (yExt rfl rfl) ?_
    refine sv (yAsg rfl) ?_
    refine sv (yAsg rfl) ?_
    refine nil ?_
    show Code.wp _ _ _ _ _
    refine seq ?_
    refine cutC (.cons (us rfl (us rfl (us rfl (us rfl (us rfl (us rfl (us rfl (us rfl (us rfl (us rfl (us rfl (us rfl (us rfl (us rfl (us rfl (us rfl (us rfl (us rfl (us rfl (us rfl (us rfl (us rfl (us rfl (us rfl (us rfl (us rfl (us rfl (us rfl (us rfl (us rfl (us rfl (us rfl (us rfl (us rfl (us rfl (us rfl (us rfl (us rfl (us rfl (us rfl (ini_get (t := 0) rfl))))))))))))))))))))))))))))))))))))))))) (.cons (us rfl (us rfl (us rfl (us rfl (us rfl (us rfl (us rfl (us rfl (us rfl (us rfl (us rfl (us rfl (us rfl (us rfl (us rfl (us rfl (us rfl (us rfl (us rfl (us rfl (us rfl (us rfl (us rfl (us rfl (us rfl (us rfl (us rfl (us rfl (us rfl (us rfl (us rfl (us rfl (us rfl (us rfl (us rfl (us rfl (us rfl (us rfl (us rfl (us rfl (ini_get (t := 1) rfl))))))))))))))))))))))))))))))))))))))))) (.cons (us rfl (us rfl (us rfl (us rfl (us rfl (us rfl (us rfl (us rfl (us rfl (us rfl (us rfl (us rfl (us rfl (us rfl (us rfl (us rfl (us rfl (us rfl (us rfl (us rfl (us rfl (us rfl (us rfl (us rfl (us rfl (us rfl (us rfl (us rfl (us rfl (us rfl (us rfl (us rfl (us rfl (us rfl (us rfl (us rfl (us rfl (us rfl (us rfl uh))))))))))))))))))))))))))))))))))))))) (.cons (us rfl uh) .nil)))) ?_
    rintro f ⟨h0, h1, h5, h7, -⟩
    refine region ?_
    refine sv (yMove h7) ?_
    refine sdem c_demand Tryz.call63 rfl rfl (fun hB w' hE => (panicE (Done.bad (e := 202) (by unfold orderF; rw [hz, hu, if_neg hG, if_neg c34, if_pos hB]) (by decide) ((hS.step hE).sub (.cons _ (.cons _ (.cons _ (.cons _ (List.Sublist.refl _))))))))) (fun hB w hE => ?_); replace hS := hS.step hE; clear hE
    refine nil ?_
    show Code.wp _ _ _ _ _
    refine quietP ?_
    refine region_mix (fun w => w.heap[b5]? = some (.cells ([.int .i64 x.tm, .int .i64 x.who, .int .i64 x.dw, .int .i64 x.what, .int .i64 x.to, .int .i64 x.subj] : List Value).toArray 86 (0, 0))) 18 mixed hS ?_
    clear hS; intro w hS
    replace hS : StX [] w0 w (blk b5 [.int .i64 x.tm, .int .i64 x.who, .int .i64 x.dw, .int .i64 x.what, .int .i64 x.to, .int .i64 x.subj] 86 :: blk p [.slice a c.ops.length cap, kv, .slice an c.kinds.length cn, .slice aa acts.length ca, .int .i64 st.now, hv, .map (some b), rv] 64 :: rowI hv 3 1 (st.hold).length ((st.hold).flatMap Bx.encI) :: mapI b (Value.int .i64) (opM st.opn) :: rowI rv 66 5 (st.ords).length ((st.ords).flatMap ordC) :: L) := hS.sub (.cons _ (.cons _ (.cons _ (List.Sublist.refl _))))
    refine f_step 0 (by kernel_rfl) rfl (fun _ _ _ _ h => False.elim h) (hS.at b5) (fun w hS => (yMove h0)) ?_
    refine f_step 1 (by kernel_rfl) rfl (fun _ _ _ _ h => False.elim h) (hS.at b5) (fun w hS => (yMove h0)) ?_
    refine f_step 2 (by kernel_rfl) rfl (fun _ _ _ _ h => False.elim h) (hS.at b5) (fun w hS => (yNil rfl)) ?_
    refine f_step 3 (by kernel_rfl) rfl (fun _ _ _ _ h => False.elim h) (hS.at b5) (fun w hS => (fa64_5 rfl)) ?_
    refine f_step 5 (by kernel_rfl) rfl (fun _ _ _ _ h => False.elim h) (hS.at b5) (fun w hS => (yMove h1)) ?_
    refine f_step 6 (by kernel_rfl) rfl (fun _ _ _ _ h => False.elim h) (hS.at b5) (fun w hS => (fa86_3 h5)) ?_
    refine f_step 7 (by kernel_rfl) rfl (fun _ _ _ _ h => False.elim h) (hS.at b5) (fun w hS => (yLdB rfl Tryz.isAgg3 hS rfl)) ?_
    refine f_step 8 (by kernel_rfl) rfl (fun _ _ _ _ h => False.elim h) (hS.at b5) (fun w hS => (fa86_5 h5)) ?_
    refine f_step 9 (by kernel_rfl) rfl (fun _ _ _ _ h => False.elim h) (hS.at b5) (fun w hS => (yLdB rfl Tryz.isAgg3 hS rfl)) ?_
    refine f_step 10 (by kernel_rfl) rfl (fun _ _ _ _ h => False.elim h) (hS.at b5) (fun w hS => (fa86_0 h5)) ?_
    refine f_step 11 (by kernel_rfl) rfl (fun _ _ _ _ h => False.elim h) (hS.at b5) (fun w hS => (yLdB rfl Tryz.isAgg3 hS rfl)) ?_
    refine f_step 12 (by kernel_rfl) rfl (fun _ _ _ _ h => False.elim h) (hS.at b5) (fun w hS => (yBuild Tryz.zeroValue66 rfl pl66 (.cons rfl rfl (.cons rfl rfl (.cons rfl rfl (.cons rfl rfl (.cons rfl rfl .nil))))) rfl)) ?_
    show wpA _ _ _ _ _ _ _ _ _ _
    refine a_step (i := 4) (is := [13]) (by kernel_rfl) ⟨?_, ?_, trivial⟩
    ·
      refine ⟨_, rfl, ?_⟩
      refine sv (yLdB rfl Tryz.isAgg33 (hS.at _) rfl) ?_
      refine nil ?_
      refine ⟨fun _ => (hS.at b5), ?_⟩
      show wpA _ _ _ _ _ _ _ _ _ _
      show wpA _ _ _ _ _ _ _ _ _ _
      refine a_step (i := 13) (is := []) (by kernel_rfl) ⟨?_, trivial⟩
      refine ⟨_, rfl, ?_⟩
      refine sbslice hS Tryz.underlying33 Tryz.sizeOf66 rfl Tryz.zeroValue66 rfl (.cons rfl rfl .nil) rfl ?_; clear hS; intro b65 w hS
      refine nil ?_
      refine ⟨fun _ => (hS.at b5), ?_⟩
      show wpA _ _ _ _ _ _ _ _ _ _
      show wpA _ _ _ _ _ _ _ _ _ _
      refine a_step (i := 14) (is := []) (by kernel_rfl) ⟨?_, trivial⟩
      refine ⟨_, rfl, ?_⟩
      refine sapp (bytes := 40) (size := 5) (v := rv) (m := 1) hS rfl rfl Tryz.underlying33 ti66 rfl rfl rfl rfl (by decide) (blk_cells (hS.at _)) rfl rfl (by have := hok.nord; omega) (by have := hok.nord; omega) ?_; clear hS; intro v66 w hS
      refine nil ?_
      refine ⟨fun _ => (hS.at b5), ?_⟩
      show wpA _ _ _ _ _ _ _ _ _ _
      refine f_step 15 (by kernel_rfl) rfl (fun _ _ _ _ h => False.elim h) (hS.at b5) (fun w hS => (yNil rfl)) ?_
      refine f_step 16 (by kernel_rfl) rfl (fun _ _ _ _ h => False.elim h) (hS.at b5) (fun w hS => (fa64_5 rfl)) ?_
      show wpA _ _ _ _ _ _ _ _ _ _
      refine a_step (i := 17) (is := []) (by kernel_rfl) ⟨?_, trivial⟩
      refine ⟨_, rfl, ?_⟩
      obtain ⟨gr, capr, rfl, -⟩ := row_some (hS.row v66) (Nat.succ_pos _)
      refine sst hS rfl rfl Tryz.sizeOf33 rfl rfl rfl rfl ?_; clear hS; intro w hS
      refine nil ?_
      refine ⟨fun _ => (hS.at b5), ?_⟩
      show wpA _ _ _ _ _ _ _ _ _ _
      refine a_end (by kernel_rfl) ?_
      refine unP ?_
      show bodyPost _ _ _ _ _ _
      exact ⟨rfl, _, (results_none rfl _ _ _), Done.ok (by unfold orderF; rw [hz, hu, if_neg hG, if_neg c34, if_neg (by rw [hB]; decide)]) (by rw [← ordRow]; exact hS.sub (.cons _ (.cons _ (List.Sublist.refl _))))⟩
    ·
      refine ⟨_, rfl, ?_⟩
      refine sbslice hS Tryz.underlying33 Tryz.sizeOf66 rfl Tryz.zeroValue66 rfl (.cons rfl rfl .nil) rfl ?_; clear hS; intro b65 w hS
      refine nil ?_
      refine ⟨fun _ => (hS.at b5), ?_⟩
      show wpA _ _ _ _ _ _ _ _ _ _
      show wpA _ _ _ _ _ _ _ _ _ _
      refine a_step (i := 4) (is := []) (by kernel_rfl) ⟨?_, trivial⟩
      refine ⟨_, rfl, ?_⟩
      refine sv (yLdB rfl Tryz.isAgg33 (hS.at _) rfl) ?_
      refine nil ?_
      refine ⟨fun _ => (hS.at b5), ?_⟩
      show wpA _ _ _ _ _ _ _ _ _ _
      show wpA _ _ _ _ _ _ _ _ _ _
      refine a_step (i := 14) (is := []) (by kernel_rfl) ⟨?_, trivial⟩
      refine ⟨_, rfl, ?_⟩
      refine sapp (bytes := 40) (size := 5) (v := rv) (m := 1) hS rfl rfl Tryz.underlying33 ti66 rfl rfl rfl rfl (by decide) (blk_cells (hS.at _)) rfl rfl (by have := hok.nord; omega) (by have := hok.nord; omega) ?_; clear hS; intro v66 w hS
      refine nil ?_
      refine ⟨fun _ => (hS.at b5), ?_⟩
      show wpA _ _ _ _ _ _ _ _ _ _
      refine f_step 15 (by kernel_rfl) rfl (fun _ _ _ _ h => False.elim h) (hS.at b5) (fun w hS => (yNil rfl)) ?_
      refine f_step 16 (by kernel_rfl) rfl (fun _ _ _ _ h => False.elim h) (hS.at b5) (fun w hS => (fa64_5 rfl)) ?_
      show wpA _ _ _ _ _ _ _ _ _ _
      refine a_step (i := 17) (is := []) (by kernel_rfl) ⟨?_, trivial⟩
      refine ⟨_, rfl, ?_⟩
      obtain ⟨gr, capr, rfl, -⟩ := row_some (hS.row v66) (Nat.succ_pos _)
      refine sst hS rfl rfl Tryz.sizeOf33 rfl rfl rfl rfl ?_; clear hS; intro w hS
      refine nil ?_
      refine ⟨fun _ => (hS.at b5), ?_⟩
      show wpA _ _ _ _ _ _ _ _ _ _
      refine a_end (by kernel_rfl) ?_
      refine unP ?_
      show bodyPost _ _ _ _ _ _
      exact ⟨rfl, _, (results_none rfl _ _ _), Done.ok (by unfold orderF; rw [hz, hu, if_neg hG, if_neg c34, if_neg (by rw [hB]; decide)]) (by rw [← ordRow]; exact hS.sub (.cons _ (.cons _ (List.Sublist.refl _))))⟩
end Go.Proofs.YtghgnofilbnbaaaGreat

/- part Ck16 -/
namespace Go.Proofs.YtghgnofilbnbaaaGreat
open Go Bx
set_option maxHeartbeats 2000000 in
/-- (*barrage/crew.room).cancel -/
theorem c_cancel {c : Crew} {acts : List Acn} {i : Nat} {x : Acn} {st : Rm} {a an aa : Option Addr} {cap cn ca p b : Nat} {kv hv rv : Value} {L : List Bx.Item} {w0 w : World} (h : RCrew w0 [.slice a c.ops.length cap, kv, .slice an c.kinds.length cn] c) (hc : CrewOk c) (ha : Sl w0 6 RAct (.slice aa acts.length ca) acts) (hok : RmOk c acts i st) (hx : ActOk c i x) (hall : ∀ (j : Nat) y, acts[j]? = some y → ActOk c j y) (hi : i < acts.length) (hn : acts.length ≤ 60) (hS : StX [] w0 w (blk p [.slice a c.ops.length cap, kv, .slice an c.kinds.length cn, .slice aa acts.length ca, .int .i64 st.now, hv, .map (some b), rv] 64 :: rowI hv 3 1 (st.hold).length ((st.hold).flatMap Bx.encI) :: mapI b (Value.int .i64) (opM st.opn) :: rowI rv 66 5 (st.ords).length ((st.ords).flatMap ordC) :: L)) : Calls Tryz.prog 67 #[.pointer (some ⟨p, 0, none⟩), .agg (actC x).toArray] w (Done (cancelF c acts x st) (fun (st : Rm) (rv : Value) => [blk p [.slice a c.ops.length cap, kv, .slice an c.kinds.length cn, .slice aa acts.length ca, .int .i64 st.now, hv, .map (some b), rv] 64, rowI hv 3 1 (st.hold).length ((st.hold).flatMap Bx.encI), mapI b (Value.int .i64) (opM st.opn), rowI rv 66 5 (st.ords).length ((st.ords).flatMap ordC)]) w0 L) := by
  obtain ⟨ov, kv2, nv2, he, hso, -, hsn, hrm⟩ := id h
  cases he
  obtain ⟨a', cap', hv', hcap, hmx, helo⟩ := id hso
  obtain ⟨rfl, rfl⟩ := slice_inj hv'.symm
  obtain ⟨an', cn', hv2, hncap, hnmx, heln⟩ := id hsn
  obtain ⟨rfl, rfl⟩ := slice_inj hv2.symm
  obtain ⟨aa', ca', hv3, hacap, hamx, hela⟩ := id ha
  obtain ⟨rfl, rfl⟩ := slice_inj hv3.symm
  have hops := hc.nops
  refine enterE Tryz.func67 rfl Tryz.ntmps67 rfl ?_
  skip
  refine seq ?_
  refine region ?_
  refine sbox hS rfl rfl ?_; clear hS; intro b3 w hS
  refine nil ?_
  show Code.wp _ _ _ _ _
  refine seq ?_
  refine region_tail mixed 7 (by kernel_rfl) hS ?_
  refine qv (fun w hS => (yMove rfl)) ?_
  refine qv (fun w hS => (yNil rfl)) ?_
  refine qv (fun w hS => (fa64_4 rfl)) ?_
  refine qv (fun w hS => (yLdB rfl Tryz.isAgg62 (hS.at _) rfl)) ?_
  refine qv (fun w hS => (fa86_3 rfl)) ?_
  refine qv (fun w hS => (yLdB rfl Tryz.isAgg3 (hS.at _) rfl)) ?_
  refine qv (fun w hS => (yLook (Value.int .i64) rfl rfl Tryz.runUnderlying62 (keyInt Tryz.underlying3) Tryz.zeroValue4 (hS.is _) (getM_opM _ _))) ?_
  clear hS; refine qtl (fun w hS => ?_)
  refine sdem c_demand Tryz.call63 rfl rfl (fun hB w' hE => (panicE (Done.bad (e := 206) (cancelF_e (by unfold cancE; rw [if_pos (of_decide_eq_false hB)])) (by decide) ((hS.step hE).sub (.cons _ (List.Sublist.refl _)))))) (fun hB w hE => ?_); replace hS := hS.step hE; clear hE
  have hm := of_decide_eq_true hB
  have hop := hok.opn _ hm
  obtain ⟨k, hk⟩ := Int.eq_ofNat_of_zero_le hop.1
  have hk2 : k < acts.length := by omega
  obtain ⟨z, hxq, hdq⟩ := drop_of (l := acts) (k := k) (by omega)
  obtain ⟨bq, oq, csq, haq, hlenq, hcsq, hRq⟩ := hela (k) (by omega)
  obtain rfl : z = acts[k] := (List.getElem?_eq_some_iff.1 hxq).2.symm
  generalize acts[k] = z at hxq hdq hRq
  obtain ⟨rfl, hiq⟩ := hRq
  replace hcsq : Cells w0 bq (oq + k * 6) [.int .i64 z.tm, .int .i64 z.who, .int .i64 z.dw, .int .i64 z.what, .int .i64 z.to, .int .i64 z.subj] := hcsq
  have hZ := hall k z hxq
  have hz := actAt_hit hk hxq
  have hzd : z.dw = 4 := by rw [← hz]; exact hop.2.2
  refine nil ?_
  show Code.wp _ _ _ _ _
  refine seq ?_
  refine region_draw mixed (by kernel_rfl) hS ?_
  refine qv (fun w hS => (yMove rfl)) ?_
  refine qv (fun w hS => (yNil rfl)) ?_
  refine qv (fun w hS => (fa64_1 rfl)) ?_
  refine qv (fun w hS => (yLdB rfl Tryz.isAgg27 (hS.at _) rfl)) ?_
  refine qv (fun w hS => (fa86_3 rfl)) ?_
  refine qv (fun w hS => (yLdB rfl Tryz.isAgg3 (hS.at _) rfl)) ?_
  refine qv (fun w hS => (yIxa rfl haq (rfl.trans (congrArg (Value.int .i64) hk)) Tryz.runUnderlying27 Tryz.sizeOf86 (by omega) (by omega))) ?_
  refine qv (fun w hS => (fa86_1 rfl)) ?_
  refine qv (fun w hS => (yLd rfl Tryz.isAgg3 ((hcsq.ext hS.ext).at (j := 1) rfl))) ?_
  refine qv (fun w hS => (yAsg rfl)) ?_
  clear hS; refine qnil (fun w hS => ?_)
  show Code.wp _ _ _ _ _
  refine seq ?_
  refine region_tail mixed 26 (by kernel_rfl) hS ?_
  obtain ⟨q, hq⟩ := Int.eq_ofNat_of_zero_le hx.who.1
  have hq2 : q < c.ops.length := by have := hx.who.2; omega
  obtain ⟨u, hxo, hdo⟩ := drop_of (l := c.ops) (k := q) (by omega)
  obtain ⟨bo, oo, cso, hao, hleno, hcso, hRo⟩ := helo (q) (by omega)
  obtain rfl : u = c.ops[q] := (List.getElem?_eq_some_iff.1 hxo).2.symm
  generalize c.ops[q] = u at hxo hdo hRo
  obtain ⟨dvo, rfl, huno, hugo, hsdo, hrdo⟩ := hRo
  have hu := oprGrade hq hxo
  obtain ⟨r, hr⟩ := Int.eq_ofNat_of_zero_le hZ.who.1
  have hr2 : r < c.ops.length := by have := hZ.who.2; omega
  obtain ⟨v, hxs, hds⟩ := drop_of (l := c.ops) (k := r) (by omega)
  obtain ⟨bs, os, css, has, hlens, hcss, hRs⟩ := helo (r) (by omega)
  obtain rfl : v = c.ops[r] := (List.getElem?_eq_some_iff.1 hxs).2.symm
  generalize c.ops[r] = v at hxs hds hRs
  obtain ⟨dvs, rfl, huns, hugs, hsds, hrds⟩ := hRs
  have hv := oprGrade hr hxs
  refine qv (fun w hS => (fa86_1 rfl)) ?_
  refine qv (fun w hS => (yLdB rfl Tryz.isAgg3 (hS.at _) rfl)) ?_
  refine qv (fun w hS => (yMove rfl)) ?_
  refine qv (fun w hS => (yEql rfl rfl)) ?_
  refine qv (fun w hS => (yMove rfl)) ?_
  refine qg rfl rfl rfl (fun g w hS => (yMove rfl)) (fun v27 g27 => ?_)
  refine qg rfl rfl rfl (fun g w hS => (yNil (g27.1 g))) (fun v28 g28 => ?_)
  refine qg rfl rfl rfl (fun g w hS => (fa64_0 (g28.1 g))) (fun v29 g29 => ?_)
  refine qg rfl rfl rfl (fun g w hS => (fa26_0 (g29.1 g))) (fun v30 g30 => ?_)
  refine qg rfl rfl rfl (fun g w hS => (yLdB (g30.1 g) Tryz.isAgg22 (hS.at _) rfl)) (fun v31 g31 => ?_)
  refine qg rfl rfl rfl (fun g w hS => (fa86_1 rfl)) (fun v32 g32 => ?_)
  refine qg rfl rfl rfl (fun g w hS => (yLdB (g32.1 g) Tryz.isAgg3 (hS.at _) rfl)) (fun v33 g33 => ?_)
  refine qg rfl rfl rfl (fun g w hS => (yIxa (g31.1 g) hao ((g33.1 g).trans (congrArg (Value.int .i64) hq)) Tryz.runUnderlying22 Tryz.sizeOf97 (by omega) (by omega))) (fun v34 g34 => ?_)
  refine qg rfl rfl rfl (fun g w hS => (fa97_1 (g34.1 g))) (fun v35 g35 => ?_)
  refine qg rfl rfl rfl (fun g w hS => (yLd (g35.1 g) Tryz.isAgg3 ((hcso.ext hS.ext).at (j := 1) rfl))) (fun v36 g36 => ?_)
  refine qg rfl rfl rfl (fun g w hS => (yMove rfl)) (fun v37 g37 => ?_)
  refine qg rfl rfl rfl (fun g w hS => (yNil (g37.1 g))) (fun v38 g38 => ?_)
  refine qg rfl rfl rfl (fun g w hS => (fa64_0 (g38.1 g))) (fun v39 g39 => ?_)
  refine qg rfl rfl rfl (fun g w hS => (fa26_0 (g39.1 g))) (fun v40 g40 => ?_)
  refine qg rfl rfl rfl (fun g w hS => (yLdB (g40.1 g) Tryz.isAgg22 (hS.at _) rfl)) (fun v41 g41 => ?_)
  refine qg rfl rfl rfl (fun g w hS => (yMove rfl)) (fun v42 g42 => ?_)
  refine qg rfl rfl rfl (fun g w hS => (yIxa (g41.1 g) has ((g42.1 g).trans (congrArg (Value.int .i64) hr)) Tryz.runUnderlying22 Tryz.sizeOf97 (by omega) (by omega))) (fun v43 g43 => ?_)
  refine qg rfl rfl rfl (fun g w hS => (fa97_1 (g43.1 g))) (fun v44 g44 => ?_)
  refine qg rfl rfl rfl (fun g w hS => (yLd (g44.1 g) Tryz.isAgg3 ((hcss.ext hS.ext).at (j := 1) rfl))) (fun v45 g45 => ?_)
  refine qg rfl rfl rfl (fun g w hS => (yGtr (g36.1 g) (g45.1 g))) (fun v46 g46 => ?_)
  refine qv (fun w hS => (yOr rfl rfl (fun hB => (g46.1 hB)))) ?_
  clear hS; refine qtl (fun w hS => ?_)
  refine sdem c_demand Tryz.call63 rfl rfl (fun hB w' hE => (panicE (Done.bad (e := 203) (cancelF_e (by unfold cancE; rw [if_neg (not_not_intro hm), hz, hu, hv, if_pos hB])) (by decide) ((hS.step hE).sub (.cons _ (List.Sublist.refl _)))))) (fun hB w hE => ?_); replace hS := hS.step hE; clear hE
  refine nil ?_
  show Code.wp _ _ _ _ _
  refine cutC (.cons (us rfl (us rfl (us rfl (us rfl (us rfl (us rfl (us rfl (us rfl (us rfl (us rfl (us rfl (us rfl (us rfl (us rfl (us rfl (us rfl (us rfl (us rfl (us rfl (us rfl (us rfl (us rfl (us rfl (us rfl (us rfl (us rfl (us rfl (us rfl (us rfl (us rfl (us rfl (us rfl (us rfl (us rfl (us rfl (us rfl (us rfl (us rfl (us rfl (us rfl (us rfl (us rfl (us rfl (us rfl (us rfl (us rfl (ini_get (t := 0) rfl))))))))))))))))))))))))))))))))))))))))))))))) (.cons (us rfl (us rfl (us rfl (us rfl (us rfl (us rfl (us rfl (us rfl (us rfl (us rfl (us rfl (us rfl (us rfl (us rfl (us rfl (us rfl (us rfl (us rfl (us rfl (us rfl (us rfl (us rfl (us rfl (us rfl (us rfl (us rfl (us rfl (us rfl (us rfl (us rfl (us rfl (us rfl (us rfl (us rfl (us rfl (us rfl (us rfl (us rfl (us rfl (us rfl (us rfl (us rfl (us rfl (us rfl (us rfl uh))))))))))))))))))))))))))))))))))))))))))))) .nil)) ?_
  rintro f ⟨h0, h3, -⟩
  refine region_tail mixed 6 (by kernel_rfl) hS ?_
  refine qv (fun w hS => (yMove h0)) ?_
  refine qv (fun w hS => (yNil rfl)) ?_
  refine qv (fun w hS => (fa64_4 rfl)) ?_
  refine qv (fun w hS => (yLdB rfl Tryz.isAgg62 (hS.at _) rfl)) ?_
  refine qv (fun w hS => (fa86_3 h3)) ?_
  refine qv (fun w hS => (yLdB rfl Tryz.isAgg3 (hS.at _) rfl)) ?_
  clear hS; refine qtl (fun w hS => ?_)
  refine sdel (Value.int .i64) hS rfl rfl Tryz.runUnderlying62 (keyInt Tryz.underlying3) ?_; clear hS; intro w hS
  refine nil ?_
  show bodyPost _ _ _ _ _ _
  rw [delM_opM] at hS
  exact ⟨rfl, _, (results_none rfl _ _ _), Done.ok (cancelF_ok (by unfold cancE; rw [if_neg (not_not_intro hm), hz, hu, hv, if_neg (by rw [hB]; decide)])) (hS.sub (.cons _ (List.Sublist.refl _)))⟩
end Go.Proofs.YtghgnofilbnbaaaGreat

/- part Ck17 -/
namespace Go.Proofs.YtghgnofilbnbaaaGreat
open Go Bx
set_option maxHeartbeats 4000000 in
/-- (*barrage/crew.room).confirm -/
theorem c_confirm {c : Crew} {acts : List Acn} {i : Nat} {x : Acn} {st : Rm} {a an aa : Option Addr} {cap cn ca p b : Nat} {kv hv rv : Value} {L : List Bx.Item} {w0 w : World} (h : RCrew w0 [.slice a c.ops.length cap, kv, .slice an c.kinds.length cn] c) (hc : CrewOk c) (ha : Sl w0 6 RAct (.slice aa acts.length ca) acts) (hok : RmOk c acts i st) (hx : ActOk c i x) (hall : ∀ (j : Nat) y, acts[j]? = some y → ActOk c j y) (hi : i < acts.length) (hn : acts.length ≤ 60) (hS : StX [] w0 w (blk p [.slice a c.ops.length cap, kv, .slice an c.kinds.length cn, .slice aa acts.length ca, .int .i64 st.now, hv, .map (some b), rv] 64 :: rowI hv 3 1 (st.hold).length ((st.hold).flatMap Bx.encI) :: mapI b (Value.int .i64) (opM st.opn) :: rowI rv 66 5 (st.ords).length ((st.ords).flatMap ordC) :: L)) : Calls Tryz.prog 66 #[.pointer (some ⟨p, 0, none⟩), .int .i64 (i : Int), .agg (actC x).toArray] w (Done (confirmF c acts i x st) (fun (st : Rm) (rv : Value) => [blk p [.slice a c.ops.length cap, kv, .slice an c.kinds.length cn, .slice aa acts.length ca, .int .i64 st.now, hv, .map (some b), rv] 64, rowI hv 3 1 (st.hold).length ((st.hold).flatMap Bx.encI), mapI b (Value.int .i64) (opM st.opn), rowI rv 66 5 (st.ords).length ((st.ords).flatMap ordC)]) w0 L) := by
  obtain ⟨ov, kv2, nv2, he, hso, -, hsn, hrm⟩ := id h
  cases he
  obtain ⟨a', cap', hv', hcap, hmx, helo⟩ := id hso
  obtain ⟨rfl, rfl⟩ := slice_inj hv'.symm
  obtain ⟨an', cn', hv2, hncap, hnmx, heln⟩ := id hsn
  obtain ⟨rfl, rfl⟩ := slice_inj hv2.symm
  obtain ⟨aa', ca', hv3, hacap, hamx, hela⟩ := id ha
  obtain ⟨rfl, rfl⟩ := slice_inj hv3.symm
  have hops := hc.nops
  refine enterE Tryz.func66 rfl Tryz.ntmps66 rfl ?_
  skip
  refine seq ?_
  refine region ?_
  refine sbox hS rfl rfl ?_; clear hS; intro b5 w hS
  refine nil ?_
  show Code.wp _ _ _ _ _
  refine seq ?_
  refine region_tail mixed 7 (by kernel_rfl) hS ?_
  refine qv (fun w hS => (yMove rfl)) ?_
  refine qv (fun w hS => (yNil rfl)) ?_
  refine qv (fun w hS => (fa64_4 rfl)) ?_
  refine qv (fun w hS => (yLdB rfl Tryz.isAgg62 (hS.at _) rfl)) ?_
  refine qv (fun w hS => (fa86_3 rfl)) ?_
  refine qv (fun w hS => (yLdB rfl Tryz.isAgg3 (hS.at _) rfl)) ?_
  refine qv (fun w hS => (yLook (Value.int .i64) rfl rfl Tryz.runUnderlying62 (keyInt Tryz.underlying3) Tryz.zeroValue4 (hS.is _) (getM_opM _ _))) ?_
  clear hS; refine qtl (fun w hS => ?_)
  refine sdem c_demand Tryz.call63 rfl rfl (fun hB w' hE => (panicE (Done.bad (e := 206) (confirmF_e (by unfold confE; exact if_pos (of_decide_eq_false hB))) (by decide) ((hS.step hE).sub (.cons _ (List.Sublist.refl _)))))) (fun hB w hE => ?_); replace hS := hS.step hE; clear hE
  have hm := of_decide_eq_true hB
  have hop := hok.opn _ hm
  obtain ⟨k, hk⟩ := Int.eq_ofNat_of_zero_le hop.1
  have hk2 : k < acts.length := by omega
  obtain ⟨z, hxq, hdq⟩ := drop_of (l := acts) (k := k) (by omega)
  obtain ⟨bq, oq, csq, haq, hlenq, hcsq, hRq⟩ := hela (k) (by omega)
  obtain rfl : z = acts[k] := (List.getElem?_eq_some_iff.1 hxq).2.symm
  generalize acts[k] = z at hxq hdq hRq
  obtain ⟨rfl, hiq⟩ := hRq
  replace hcsq : Cells w0 bq (oq + k * 6) [.int .i64 z.tm, .int .i64 z.who, .int .i64 z.dw, .int .i64 z.what, .int .i64 z.to, .int .i64 z.subj] := hcsq
  have hZ := hall k z hxq
  have hz := actAt_hit hk hxq
  have hzd : z.dw = 4 := by rw [← hz]; exact hop.2.2
  refine nil ?_
  show Code.wp _ _ _ _ _
  refine seq ?_
  refine quietP ?_
  refine region_mix (fun w => StX [] w0 w (blk b5 [.int .i64 x.tm, .int .i64 x.who, .int .i64 x.dw, .int .i64 x.what, .int .i64 x.to, .int .i64 x.subj] 86 :: blk p [.slice a c.ops.length cap, kv, .slice an c.kinds.length cn, .slice aa acts.length ca, .int .i64 st.now, hv, .map (some b), rv] 64 :: rowI hv 3 1 (st.hold).length ((st.hold).flatMap Bx.encI) :: mapI b (Value.int .i64) (opM st.opn) :: rowI rv 66 5 (st.ords).length ((st.ords).flatMap ordC) :: L)) 10 mixed hS ?_
  clear hS; intro w hS
  refine f_step 0 (by kernel_rfl) rfl (fun _ _ _ _ h => False.elim h) (hS.sub (List.Sublist.refl _)) (fun w hS => (yMove rfl)) ?_
  refine f_step 1 (by kernel_rfl) rfl (fun _ _ _ _ h => False.elim h) (hS.sub (List.Sublist.refl _)) (fun w hS => (yNil rfl)) ?_
  refine f_step 2 (by kernel_rfl) rfl (fun _ _ _ _ h => False.elim h) (hS.sub (List.Sublist.refl _)) (fun w hS => (fa64_1 rfl)) ?_
  refine f_step 3 (by kernel_rfl) rfl (fun _ _ _ _ h => False.elim h) (hS.sub (List.Sublist.refl _)) (fun w hS => (yLdB rfl Tryz.isAgg27 (hS.at _) rfl)) ?_
  refine f_step 4 (by kernel_rfl) rfl (fun _ _ _ _ h => False.elim h) (hS.sub (List.Sublist.refl _)) (fun w hS => (fa86_3 rfl)) ?_
  refine f_step 5 (by kernel_rfl) rfl (fun _ _ _ _ h => False.elim h) (hS.sub (List.Sublist.refl _)) (fun w hS => (yLdB rfl Tryz.isAgg3 (hS.at _) rfl)) ?_
  refine f_step 6 (by kernel_rfl) rfl (fun _ _ _ _ h => False.elim h) (hS.sub (List.Sublist.refl _)) (fun w hS => (yIxa rfl haq (rfl.trans (congrArg (Value.int .i64) hk)) Tryz.runUnderlying27 Tryz.sizeOf86 (by omega) (by omega))) ?_
  refine f_step 7 (by kernel_rfl) rfl (fun _ _ _ _ h => False.elim h) (hS.sub (List.Sublist.refl _)) (fun w hS => (yLdA rfl Tryz.isAgg86 Tryz.sizeOf86 (hcsq.ext hS.ext) rfl)) ?_
  show wpA _ _ _ _ _ _ _ _ _ _
  refine a_step (i := 8) (is := []) (by kernel_rfl) ⟨?_, trivial⟩
  refine ⟨_, rfl, ?_⟩
  refine salloc hS Tryz.zeroValue86 rfl ?_; clear hS; intro b6 w hS
  refine nil ?_
  refine ⟨fun _ => (hS.sub (.cons _ (List.Sublist.refl _))), ?_⟩
  show wpA _ _ _ _ _ _ _ _ _ _
  show wpA _ _ _ _ _ _ _ _ _ _
  refine a_step (i := 9) (is := []) (by kernel_rfl) ⟨?_, trivial⟩
  refine ⟨_, rfl, ?_⟩
  refine sst hS rfl rfl Tryz.sizeOf86 rfl rfl rfl rfl ?_; clear hS; intro w hS
  refine nil ?_
  refine ⟨fun _ => (hS.sub (.cons _ (List.Sublist.refl _))), ?_⟩
  show wpA _ _ _ _ _ _ _ _ _ _
  refine a_end (by kernel_rfl) ?_
  refine unP ?_
  show Code.wp _ _ _ _ _
  refine seq ?_
  refine quietP ?_
  refine region_mix (fun w => StX [] w0 w (blk b6 [.int .i64 z.tm, .int .i64 z.who, .int .i64 z.dw, .int .i64 z.what, .int .i64 z.to, .int .i64 z.subj] 86 :: blk b5 [.int .i64 x.tm, .int .i64 x.who, .int .i64 x.dw, .int .i64 x.what, .int .i64 x.to, .int .i64 x.subj] 86 :: blk p [.slice a c.ops.length cap, kv, .slice an c.kinds.length cn, .slice aa acts.length ca, .int .i64 st.now, hv, .map (some b), rv] 64 :: rowI hv 3 1 (st.hold).length ((st.hold).flatMap Bx.encI) :: mapI b (Value.int .i64) (opM st.opn) :: rowI rv 66 5 (st.ords).length ((st.ords).flatMap ordC) :: L)) 11 mixed hS ?_
  clear hS; intro w hS
  replace hS : StX [] w0 w (blk b6 [.int .i64 z.tm, .int .i64 z.who, .int .i64 z.dw, .int .i64 z.what, .int .i64 z.to, .int .i64 z.subj] 86 :: blk b5 [.int .i64 x.tm, .int .i64 x.who, .int .i64 x.dw, .int .i64 x.what, .int .i64 x.to, .int .i64 x.subj] 86 :: blk p [.slice a c.ops.length cap, kv, .slice an c.kinds.length cn, .slice aa acts.length ca, .int .i64 st.now, hv, .map (some b), rv] 64 :: rowI hv 3 1 (st.hold).length ((st.hold).flatMap Bx.encI) :: mapI b (Value.int .i64) (opM st.opn) :: rowI rv 66 5 (st.ords).length ((st.ords).flatMap ordC) :: L) := hS
  have hwh := hZ.what
  rw [show manyA c k z = c.kinds.length from if_pos hzd] at hwh
  obtain ⟨t, ht⟩ := Int.eq_ofNat_of_zero_le hwh.1
  have ht2 : t < c.kinds.length := by omega
  obtain ⟨y, hxt, hdt⟩ := drop_of (l := c.kinds) (k := t) (by omega)
  obtain ⟨bt, ot, cst, hat, hlent, hcst, hRt⟩ := heln (t) (by omega)
  obtain rfl : y = c.kinds[t] := (List.getElem?_eq_some_iff.1 hxt).2.symm
  generalize c.kinds[t] = y at hxt hdt hRt
  obtain ⟨xvt, rfl, hnmt, hgrt, hset, hwit, hskt, hrzt⟩ := hRt
  obtain ⟨akt, ckt, rfl, -⟩ := id hskt
  have hy := kndAt_hit ht hxt
  have hkz := kndOk_of (hc.kinds y (List.mem_of_getElem? hxt))
  have hkw := hkz.within
  have hztm := hZ.tm
  refine f_step 0 (by kernel_rfl) rfl (fun _ _ _ _ h => False.elim h) (hS.sub (List.Sublist.refl _)) (fun w hS => (yMove rfl)) ?_
  refine f_step 1 (by kernel_rfl) rfl (fun _ _ _ _ h => False.elim h) (hS.sub (List.Sublist.refl _)) (fun w hS => (yNil rfl)) ?_
  refine f_step 2 (by kernel_rfl) rfl (fun _ _ _ _ h => False.elim h) (hS.sub (List.Sublist.refl _)) (fun w hS => (fa64_0 rfl)) ?_
  refine f_step 3 (by kernel_rfl) rfl (fun _ _ _ _ h => False.elim h) (hS.sub (List.Sublist.refl _)) (fun w hS => (fa26_2 rfl)) ?_
  refine f_step 4 (by kernel_rfl) rfl (fun _ _ _ _ h => False.elim h) (hS.sub (List.Sublist.refl _)) (fun w hS => (yLdB rfl Tryz.isAgg24 (hS.at _) rfl)) ?_
  refine f_step 5 (by kernel_rfl) rfl (fun _ _ _ _ h => False.elim h) (hS.sub (List.Sublist.refl _)) (fun w hS => (fa86_3 rfl)) ?_
  refine f_step 6 (by kernel_rfl) rfl (fun _ _ _ _ h => False.elim h) (hS.sub (List.Sublist.refl _)) (fun w hS => (yLdB rfl Tryz.isAgg3 (hS.at _) rfl)) ?_
  refine f_step 7 (by kernel_rfl) rfl (fun _ _ _ _ h => False.elim h) (hS.sub (List.Sublist.refl _)) (fun w hS => (yIxa rfl hat (rfl.trans (congrArg (Value.int .i64) ht)) Tryz.runUnderlying24 Tryz.sizeOf92 (by omega) (by omega))) ?_
  refine f_step 8 (by kernel_rfl) rfl (fun _ _ _ _ h => False.elim h) (hS.sub (List.Sublist.refl _)) (fun w hS => (yLdA rfl Tryz.isAgg92 Tryz.sizeOf92 (hcst.ext hS.ext) rfl)) ?_
  show wpA _ _ _ _ _ _ _ _ _ _
  refine a_step (i := 9) (is := []) (by kernel_rfl) ⟨?_, trivial⟩
  refine ⟨_, rfl, ?_⟩
  refine salloc hS Tryz.zeroValue92 rfl ?_; clear hS; intro b7 w hS
  refine nil ?_
  refine ⟨fun _ => (hS.sub (.cons _ (List.Sublist.refl _))), ?_⟩
  show wpA _ _ _ _ _ _ _ _ _ _
  show wpA _ _ _ _ _ _ _ _ _ _
  refine a_step (i := 10) (is := []) (by kernel_rfl) ⟨?_, trivial⟩
  refine ⟨_, rfl, ?_⟩
  refine sst hS rfl rfl Tryz.sizeOf92 rfl rfl rfl rfl ?_; clear hS; intro w hS
  refine nil ?_
  refine ⟨fun _ => (hS.sub (.cons _ (List.Sublist.refl _))), ?_⟩
  show wpA _ _ _ _ _ _ _ _ _ _
  refine a_end (by kernel_rfl) ?_
  refine unP ?_
  show Code.wp _ _ _ _ _
  refine seq ?_
  refine region ?_
  replace hS : StX [] w0 w (blk b7 [.string y.name, .int .i64 y.grade, .int .i64 y.second, .int .i64 y.within, .slice akt y.keys.length ckt, .bool y.split] 92 :: blk b6 [.int .i64 z.tm, .int .i64 z.who, .int .i64 z.dw, .int .i64 z.what, .int .i64 z.to, .int .i64 z.subj] 86 :: blk b5 [.int .i64 x.tm, .int .i64 x.who, .int .i64 x.dw, .int .i64 x.what, .int .i64 x.to, .int .i64 x.subj] 86 :: blk p [.slice a c.ops.length cap, kv, .slice an c.kinds.length cn, .slice aa acts.length ca, .int .i64 st.now, hv, .map (some b), rv] 64 :: rowI hv 3 1 (st.hold).length ((st.hold).flatMap Bx.encI) :: mapI b (Value.int .i64) (opM st.opn) :: rowI rv 66 5 (st.ords).length ((st.ords).flatMap ordC) :: L) := hS
  refine sv (fa86_0 rfl) ?_
  refine sv (yLdB rfl Tryz.isAgg3 (hS.at _) rfl) ?_
  refine sv (fa86_0 rfl) ?_
  refine sv (yLdB rfl Tryz.isAgg3 (hS.at _) rfl) ?_
  refine sv (fa92_3 rfl) ?_
  refine sv (yLdB rfl Tryz.isAgg3 (hS.at _) rfl) ?_
  refine sv (yAdd rfl rfl ⟨by omega, by omega⟩) ?_
  refine sv (yLeq rfl rfl) ?_
  refine sdem c_demand Tryz.call63 rfl rfl (fun hB w' hE => (panicE (Done.bad (e := 205) (confirmF_e (by unfold confE; simp only [hz, hy]; rw [if_neg (not_not_intro hm), if_pos (by have := of_decide_eq_false hB; omega)])) (by decide) ((hS.step hE).sub (.cons _ (.cons _ (.cons _ (List.Sublist.refl _)))))))) (fun hB w hE => ?_); replace hS := hS.step hE; clear hE
  have hT : ¬ z.tm + y.within < x.tm := by have := of_decide_eq_true hB; omega
  refine nil ?_
  show Code.wp _ _ _ _ _
  refine seq ?_
  refine cutC (.cons (us rfl (us rfl (us rfl (us rfl (us rfl (us rfl (us rfl (us rfl (us rfl (us rfl (us rfl (us rfl (us rfl (us rfl (us rfl (us rfl (us rfl (us rfl (us rfl (us rfl (us rfl (us rfl (us rfl (us rfl (us rfl (us rfl (us rfl (us rfl (us rfl (us rfl (us rfl (us rfl (us rfl (us rfl (us rfl (us rfl (us rfl (ini_get (t := 0) rfl)))))))))))))))))))))))))))))))))))))) (.cons (us rfl (us rfl (us rfl (us rfl (us rfl (us rfl (us rfl (us rfl (us rfl (us rfl (us rfl (us rfl (us rfl (us rfl (us rfl (us rfl (us rfl (us rfl (us rfl (us rfl (us rfl (us rfl (us rfl (us rfl (us rfl (us rfl (us rfl (us rfl (us rfl (us rfl (us rfl (us rfl (us rfl (us rfl (us rfl (us rfl (us rfl (ini_get (t := 1) rfl)))))))))))))))))))))))))))))))))))))) (.cons (us rfl (us rfl (us rfl (us rfl (us rfl (us rfl (us rfl (us rfl (us rfl (us rfl (us rfl (us rfl (us rfl (us rfl (us rfl (us rfl (us rfl (us rfl (us rfl (us rfl (us rfl (us rfl (us rfl (us rfl (us rfl (us rfl (us rfl (us rfl (us rfl (us rfl (us rfl (us rfl (us rfl (us rfl (us rfl (us rfl uh)))))))))))))))))))))))))))))))))))) (.cons (us rfl (us rfl (us rfl (us rfl (us rfl (us rfl (us rfl (us rfl (us rfl (us rfl (us rfl (us rfl (us rfl (us rfl (us rfl (us rfl (us rfl (us rfl (us rfl uh))))))))))))))))))) (.cons (us rfl (us rfl (us rfl (us rfl (us rfl (us rfl (us rfl (us rfl (us rfl uh))))))))) .nil))))) ?_
  rintro f ⟨h0, h1, h5, h6, h7, -⟩
  refine region ?_
  refine sv (fa86_1 h5) ?_
  refine sv (yLdB rfl Tryz.isAgg3 (hS.at _) rfl) ?_
  refine sv (fa86_1 h6) ?_
  refine sv (yLdB rfl Tryz.isAgg3 (hS.at _) rfl) ?_
  refine sv (yNeq rfl rfl) ?_
  refine sdem c_demand Tryz.call63 rfl rfl (fun hB w' hE => (panicE (Done.bad (e := 204) (confirmF_e (by unfold confE; simp only [hz, hy]; rw [if_neg (not_not_intro hm), if_neg hT, if_pos (by have := of_decide_eq_false hB; omega)])) (by decide) ((hS.step hE).sub (.cons _ (.cons _ (.cons _ (List.Sublist.refl _)))))))) (fun hB w hE => ?_); replace hS := hS.step hE; clear hE
  have hW : ¬ x.who = z.who := of_decide_eq_true hB
  refine nil ?_
  show Code.wp _ _ _ _ _
  refine seq ?_
  refine region_tail mixed 13 (by kernel_rfl) hS ?_
  obtain ⟨q, hq⟩ := Int.eq_ofNat_of_zero_le hx.who.1
  have hq2 : q < c.ops.length := by have := hx.who.2; omega
  obtain ⟨u, hxo, hdo⟩ := drop_of (l := c.ops) (k := q) (by omega)
  obtain ⟨bo, oo, cso, hao, hleno, hcso, hRo⟩ := helo (q) (by omega)
  obtain rfl : u = c.ops[q] := (List.getElem?_eq_some_iff.1 hxo).2.symm
  generalize c.ops[q] = u at hxo hdo hRo
  obtain ⟨dvo, rfl, huno, hugo, hsdo, hrdo⟩ := hRo
  have hu := oprGrade hq hxo
  refine qv (fun w hS => (yMove h0)) ?_
  refine qv (fun w hS => (yNil rfl)) ?_
  refine qv (fun w hS => (fa64_0 rfl)) ?_
  refine qv (fun w hS => (fa26_0 rfl)) ?_
  refine qv (fun w hS => (yLdB rfl Tryz.isAgg22 (hS.at _) rfl)) ?_
  refine qv (fun w hS => (fa86_1 h5)) ?_
  refine qv (fun w hS => (yLdB rfl Tryz.isAgg3 (hS.at _) rfl)) ?_
  refine qv (fun w hS => (yIxa rfl hao (rfl.trans (congrArg (Value.int .i64) hq)) Tryz.runUnderlying22 Tryz.sizeOf97 (by omega) (by omega))) ?_
  refine qv (fun w hS => (fa97_1 rfl)) ?_
  refine qv (fun w hS => (yLd rfl Tryz.isAgg3 ((hcso.ext hS.ext).at (j := 1) rfl))) ?_
  refine qv (fun w hS => (fa92_2 h7)) ?_
  refine qv (fun w hS => (yLdB rfl Tryz.isAgg3 (hS.at _) rfl)) ?_
  refine qv (fun w hS => (yGeq rfl rfl)) ?_
  clear hS; refine qtl (fun w hS => ?_)
  refine sdem c_demand Tryz.call63 rfl rfl (fun hB w' hE => (panicE (Done.bad (e := 203) (confirmF_e (by unfold confE; simp only [hz, hy]; rw [if_neg (not_not_intro hm), if_neg hT, if_neg hW, hu, if_pos (by have := of_decide_eq_false hB; omega)])) (by decide) ((hS.step hE).sub (.cons _ (.cons _ (.cons _ (List.Sublist.refl _)))))))) (fun hB w hE => ?_); replace hS := hS.step hE; clear hE
  have hG : ¬ u.grade < y.second := by have := of_decide_eq_true hB; omega
  refine nil ?_
  show Code.wp _ _ _ _ _
  refine seq ?_
  refine region_tail mixed 9 (by kernel_rfl) hS ?_
  refine qv (fun w hS => (yMove h0)) ?_
  refine qv (fun w hS => (yNil rfl)) ?_
  refine qv (fun w hS => (fa64_0 rfl)) ?_
  refine qv (fun w hS => (yLdBA rfl Tryz.isAgg26 Tryz.sizeOf26 (hS.at _) rfl rfl)) ?_
  refine qv (fun w hS => (fa86_1 h6)) ?_
  refine qv (fun w hS => (yLdB rfl Tryz.isAgg3 (hS.at _) rfl)) ?_
  refine qv (fun w hS => (fa86_0 h5)) ?_
  refine qv (fun w hS => (yLdB rfl Tryz.isAgg3 (hS.at _) rfl)) ?_
  refine qcall Tryz.call64 (.cons rfl (.cons rfl (.cons rfl .nil))) (fun w hS => (c_on (h.ext hS.ext) hZ.who)) ?_
  clear hS; refine qtl (fun w hS => ?_)
  refine sdem c_demand Tryz.call63 rfl rfl (fun hB w' hE => (panicE (Done.bad (e := 201) (confirmF_e (by unfold confE; simp only [hz, hy]; rw [if_neg (not_not_intro hm), if_neg hT, if_neg hW, hu, if_neg hG, if_pos hB])) (by decide) ((hS.step hE).sub (.cons _ (.cons _ (.cons _ (List.Sublist.refl _)))))))) (fun hB w hE => ?_); replace hS := hS.step hE; clear hE
  have hD : onB c z.who x.tm = true := hB
  clear hB
  refine nil ?_
  show Code.wp _ _ _ _ _
  refine seq ?_
  refine cutC (.cons (us rfl (us rfl (us rfl (us rfl (us rfl (us rfl (us rfl (us rfl (us rfl (us rfl (us rfl (us rfl (us rfl (us rfl (us rfl (us rfl (us rfl (us rfl (us rfl (us rfl (us rfl (us rfl (us rfl (us rfl (us rfl (us rfl (us rfl (us rfl (us rfl (us rfl h0)))))))))))))))))))))))))))))) (.cons (us rfl (us rfl (us rfl (us rfl (us rfl (us rfl (us rfl (us rfl (us rfl (us rfl (us rfl (us rfl (us rfl (us rfl (us rfl (us rfl (us rfl (us rfl (us rfl (us rfl (us rfl (us rfl (us rfl (us rfl (us rfl (us rfl (us rfl (us rfl (us rfl (us rfl h1)))))))))))))))))))))))))))))) (.cons (us rfl (us rfl (us rfl (us rfl (us rfl (us rfl (us rfl (us rfl (us rfl (us rfl (us rfl (us rfl (us rfl (us rfl (us rfl (us rfl (us rfl (us rfl (us rfl (us rfl (us rfl (us rfl (us rfl (us rfl (us rfl (us rfl (us rfl (us rfl (us rfl (us rfl h5)))))))))))))))))))))))))))))) (.cons (us rfl (us rfl (us rfl (us rfl (us rfl (us rfl (us rfl (us rfl (us rfl (us rfl (us rfl (us rfl (us rfl (us rfl (us rfl (us rfl (us rfl (us rfl (us rfl (us rfl (us rfl (us rfl (us rfl (us rfl (us rfl (us rfl (us rfl (us rfl (us rfl (us rfl h6)))))))))))))))))))))))))))))) (.cons (us rfl (us rfl (us rfl (us rfl (us rfl (us rfl (us rfl (us rfl (us rfl (us rfl (us rfl (us rfl (us rfl (us rfl (us rfl (us rfl (us rfl (us rfl (us rfl (us rfl (us rfl (us rfl (us rfl (us rfl (us rfl (us rfl (us rfl (us rfl (us rfl (us rfl h7)))))))))))))))))))))))))))))) .nil))))) ?_
  rintro f ⟨h0, h1, h5, h6, h7, -⟩
  refine region ?_
  refine sv (yMove h0) ?_
  refine sv (fa92_4 h7) ?_
  refine sv (yLdB rfl Tryz.isAgg37 (hS.at _) rfl) ?_
  refine sv (fa86_1 h5) ?_
  refine sv (yLdB rfl Tryz.isAgg3 (hS.at _) rfl) ?_
  refine sv (fa86_1 h6) ?_
  refine sv (yLdB rfl Tryz.isAgg3 (hS.at _) rfl) ?_
  refine sbslice hS Tryz.underlying37 Tryz.sizeOf3 rfl Tryz.zeroValue3 rfl (.cons rfl rfl (.cons rfl rfl .nil)) rfl ?_; clear hS; intro b82 w hS
  have hx1 := hx.who
  have hz1 := hZ.who
  have hby : ∀ s ∈ [x.who, z.who], I64 s := two64 ⟨by omega, by omega⟩ ⟨by omega, by omega⟩
  have hkeys : ∀ y' ∈ y.keys, 0 ≤ y' ∧ y' < st.hold.length := fun y' hy' => by have := hkz.keys y' hy'; rw [hok.len]; exact this
  refine scall Tryz.call86 (.cons rfl (.cons rfl (.cons rfl .nil))) (c_held (keys := y.keys) (by_ := [x.who, z.who]) (hS.at p) rfl (sl_ints (hS.row hv) rfl (hok.hold64 hc)) (hskt.ext RInt.stays hS.ext) (sl_ints (own_blk (hS.at b82) rfl (by simp)) rfl hby) hkeys (by have h9 : y.keys.length * 8 ≤ 140737488351232 := hrzt; omega) (by simp)) ?_
  rintro _ w ⟨ev, rfl, hM⟩; replace hS := hS.call1 hM; clear hM
  refine sv (yMove rfl) ?_
  refine sv (yExt rfl rfl) ?_
  refine sv (yExt rfl rfl) ?_
  refine sv (yAsg rfl) ?_
  refine sv (yAsg rfl) ?_
  refine nil ?_
  show Code.wp _ _ _ _ _
  refine seq ?_
  refine region ?_
  refine sv (yMove rfl) ?_
  refine sv (yMove rfl) ?_
  refine sg rfl rfl rfl (fun g => (fa92_5 h7)) (fun v88 g88 => ?_)
  refine sg rfl rfl rfl (fun g => (yLdB (g88.1 g) Tryz.isAgg4 (hS.at _) rfl)) (fun v89 g89 => ?_)
  refine sg rfl rfl rfl (fun g => (yNot (g89.1 g))) (fun v90 g90 => ?_)
  refine sg rfl rfl rfl (fun g => (yMove (g90.1 g))) (fun v91 g91 => ?_)
  refine sgg rfl rfl g91 (fun g => (yMove rfl)) (fun v92 g92 => ?_)
  refine sggc hS rfl rfl g91 Tryz.call87 (fun g => (.cons (g92.1 g) .nil)) (fun g => (c_MinI (l := foldH st.hold [x.who, z.who] y.keys) (sl_ints (hS.row ev) (foldH_len _ _ _) (fun s hs => by have h8 := foldH_bd _ _ _ s hs; have h9 : y.keys.length * 8 ≤ 140737488351232 := hrzt; exact ⟨by omega, by omega⟩)) (by rw [foldH_len]; exact Nat.succ_pos _))) ?_; clear hS; intro v93 w hS g93
  refine sgg rfl rfl g91 (fun g => (yGtr (g93.1 g) rfl)) (fun v94 g94 => ?_)
  refine sg rfl rfl rfl (fun g => (yOr (g91.1 g) rfl (fun hB => (g94.1 ⟨g, hB⟩)))) (fun v95 g95 => ?_)
  refine sv (yAnd rfl (fun hB => (g95.1 hB)) rfl) ?_
  refine sdem c_demand Tryz.call63 rfl rfl (fun hB w' hE => (panicE (Done.bad (e := 202) (confirmF_e (by unfold confE; simp only [hz, hy]; rw [if_neg (not_not_intro hm), if_neg hT, if_neg hW, hu, if_neg hG, if_neg (by rw [hD]; decide), if_pos hB])) (by decide) ((hS.step hE).sub (.cons _ (.cons _ (.cons _ (.cons _ (.cons _ (List.Sublist.refl _)))))))))) (fun hB w hE => ?_); replace hS := hS.step hE; clear hE
  refine nil ?_
  show Code.wp _ _ _ _ _
  refine seq ?_
  refine region_tail mixed 6 (by kernel_rfl) hS ?_
  refine qv (fun w hS => (yMove h0)) ?_
  refine qv (fun w hS => (yNil rfl)) ?_
  refine qv (fun w hS => (fa64_4 rfl)) ?_
  refine qv (fun w hS => (yLdB rfl Tryz.isAgg62 (hS.at _) rfl)) ?_
  refine qv (fun w hS => (fa86_3 h5)) ?_
  refine qv (fun w hS => (yLdB rfl Tryz.isAgg3 (hS.at _) rfl)) ?_
  clear hS; refine qtl (fun w hS => ?_)
  refine sdel (Value.int .i64) hS rfl rfl Tryz.runUnderlying62 (keyInt Tryz.underlying3) ?_; clear hS; intro w hS
  refine nil ?_
  show Code.wp _ _ _ _ _
  refine cutC (.cons (us rfl (us rfl (us rfl (us rfl (us rfl (us rfl (us rfl (us rfl (us rfl (us rfl (us rfl (us rfl (us rfl (us rfl (us rfl (us rfl (us rfl (us rfl (us rfl (us rfl (us rfl (us rfl (us rfl (us rfl (us rfl (us rfl (us rfl (us rfl (us rfl (us rfl (us rfl (us rfl h0)))))))))))))))))))))))))))))))) (.cons (us rfl (us rfl (us rfl (us rfl (us rfl (us rfl (us rfl (us rfl (us rfl (us rfl (us rfl (us rfl (us rfl (us rfl (us rfl (us rfl (us rfl (us rfl (us rfl (us rfl (us rfl (us rfl (us rfl (us rfl (us rfl (us rfl (us rfl (us rfl (us rfl (us rfl (us rfl (us rfl h1)))))))))))))))))))))))))))))))) (.cons (us rfl (us rfl (us rfl (us rfl (us rfl (us rfl (us rfl (us rfl (us rfl (us rfl (us rfl (us rfl (us rfl (us rfl (us rfl (us rfl (us rfl (us rfl (us rfl (us rfl (us rfl (us rfl (us rfl (us rfl (us rfl (us rfl (us rfl (us rfl (us rfl (us rfl (us rfl (us rfl h5)))))))))))))))))))))))))))))))) (.cons (us rfl (us rfl (us rfl (us rfl (us rfl (us rfl (us rfl (us rfl (us rfl (us rfl (us rfl (us rfl (us rfl (us rfl (us rfl (us rfl (us rfl (us rfl (us rfl (us rfl (us rfl (us rfl (us rfl (us rfl (us rfl (us rfl (us rfl (us rfl (us rfl (us rfl (us rfl (us rfl h6)))))))))))))))))))))))))))))))) .nil)))) ?_
  rintro f ⟨h0, h1, h5, h6, -⟩
  refine quietP ?_
  refine region_mix (fun w => w.heap[b5]? = some (.cells ([.int .i64 x.tm, .int .i64 x.who, .int .i64 x.dw, .int .i64 x.what, .int .i64 x.to, .int .i64 x.subj] : List Value).toArray 86 (0, 0)) ∧ w.heap[b6]? = some (.cells ([.int .i64 z.tm, .int .i64 z.who, .int .i64 z.dw, .int .i64 z.what, .int .i64 z.to, .int .i64 z.subj] : List Value).toArray 86 (0, 0))) 20 mixed hS ?_
  clear hS; intro w hS
  rw [delM_opM] at hS
  have hS2 := hS.sub (.cons _ (.cons _ (List.Sublist.refl _)))
  clear hS
  have hS := hS2
  clear hS2
  refine f_step 0 (by kernel_rfl) rfl (fun _ _ _ _ h => False.elim h) ⟨hS.at b5, hS.at b6⟩ (fun w hS => (yMove h0)) ?_
  refine f_step 1 (by kernel_rfl) rfl (fun _ _ _ _ h => False.elim h) ⟨hS.at b5, hS.at b6⟩ (fun w hS => (yMove h0)) ?_
  refine f_step 2 (by kernel_rfl) rfl (fun _ _ _ _ h => False.elim h) ⟨hS.at b5, hS.at b6⟩ (fun w hS => (yNil rfl)) ?_
  refine f_step 3 (by kernel_rfl) rfl (fun _ _ _ _ h => False.elim h) ⟨hS.at b5, hS.at b6⟩ (fun w hS => (fa64_5 rfl)) ?_
  refine f_step 5 (by kernel_rfl) rfl (fun _ _ _ _ h => False.elim h) ⟨hS.at b5, hS.at b6⟩ (fun w hS => (fa86_3 h5)) ?_
  refine f_step 6 (by kernel_rfl) rfl (fun _ _ _ _ h => False.elim h) ⟨hS.at b5, hS.at b6⟩ (fun w hS => (yLdB rfl Tryz.isAgg3 hS.1 rfl)) ?_
  refine f_step 7 (by kernel_rfl) rfl (fun _ _ _ _ h => False.elim h) ⟨hS.at b5, hS.at b6⟩ (fun w hS => (yMove h1)) ?_
  refine f_step 8 (by kernel_rfl) rfl (fun _ _ _ _ h => False.elim h) ⟨hS.at b5, hS.at b6⟩ (fun w hS => (fa86_3 h6)) ?_
  refine f_step 9 (by kernel_rfl) rfl (fun _ _ _ _ h => False.elim h) ⟨hS.at b5, hS.at b6⟩ (fun w hS => (yLdB rfl Tryz.isAgg3 hS.2 rfl)) ?_
  refine f_step 10 (by kernel_rfl) rfl (fun _ _ _ _ h => False.elim h) ⟨hS.at b5, hS.at b6⟩ (fun w hS => (fa86_5 h6)) ?_
  refine f_step 11 (by kernel_rfl) rfl (fun _ _ _ _ h => False.elim h) ⟨hS.at b5, hS.at b6⟩ (fun w hS => (yLdB rfl Tryz.isAgg3 hS.2 rfl)) ?_
  refine f_step 12 (by kernel_rfl) rfl (fun _ _ _ _ h => False.elim h) ⟨hS.at b5, hS.at b6⟩ (fun w hS => (fa86_0 h5)) ?_
  refine f_step 13 (by kernel_rfl) rfl (fun _ _ _ _ h => False.elim h) ⟨hS.at b5, hS.at b6⟩ (fun w hS => (yLdB rfl Tryz.isAgg3 hS.1 rfl)) ?_
  refine f_step 14 (by kernel_rfl) rfl (fun _ _ _ _ h => False.elim h) ⟨hS.at b5, hS.at b6⟩ (fun w hS => (yBuild Tryz.zeroValue66 rfl pl66 (.cons rfl rfl (.cons rfl rfl (.cons rfl rfl (.cons rfl rfl (.cons rfl rfl .nil))))) rfl)) ?_
  show wpA _ _ _ _ _ _ _ _ _ _
  refine a_step (i := 4) (is := [15]) (by kernel_rfl) ⟨?_, ?_, trivial⟩
  ·
    refine ⟨_, rfl, ?_⟩
    refine sv (yLdB rfl Tryz.isAgg33 (hS.at _) rfl) ?_
    refine nil ?_
    refine ⟨fun _ => ⟨hS.at b5, hS.at b6⟩, ?_⟩
    show wpA _ _ _ _ _ _ _ _ _ _
    show wpA _ _ _ _ _ _ _ _ _ _
    refine a_step (i := 15) (is := []) (by kernel_rfl) ⟨?_, trivial⟩
    refine ⟨_, rfl, ?_⟩
    refine sbslice hS Tryz.underlying33 Tryz.sizeOf66 rfl Tryz.zeroValue66 rfl (.cons rfl rfl .nil) rfl ?_; clear hS; intro b119 w hS
    refine nil ?_
    refine ⟨fun _ => ⟨hS.at b5, hS.at b6⟩, ?_⟩
    show wpA _ _ _ _ _ _ _ _ _ _
    show wpA _ _ _ _ _ _ _ _ _ _
    refine a_step (i := 16) (is := []) (by kernel_rfl) ⟨?_, trivial⟩
    refine ⟨_, rfl, ?_⟩
    refine sapp (bytes := 40) (size := 5) (v := rv) (m := 1) hS rfl rfl Tryz.underlying33 ti66 rfl rfl rfl rfl (by decide) (blk_cells (hS.at _)) rfl rfl (by have := hok.nord; omega) (by have := hok.nord; omega) ?_; clear hS; intro v120 w hS
    refine nil ?_
    refine ⟨fun _ => ⟨hS.at b5, hS.at b6⟩, ?_⟩
    show wpA _ _ _ _ _ _ _ _ _ _
    refine f_step 17 (by kernel_rfl) rfl (fun _ _ _ _ h => False.elim h) ⟨hS.at b5, hS.at b6⟩ (fun w hS => (yNil rfl)) ?_
    refine f_step 18 (by kernel_rfl) rfl (fun _ _ _ _ h => False.elim h) ⟨hS.at b5, hS.at b6⟩ (fun w hS => (fa64_5 rfl)) ?_
    show wpA _ _ _ _ _ _ _ _ _ _
    refine a_step (i := 19) (is := []) (by kernel_rfl) ⟨?_, trivial⟩
    refine ⟨_, rfl, ?_⟩
    obtain ⟨gr, capr, rfl, -⟩ := row_some (hS.row v120) (Nat.succ_pos _)
    refine sst hS rfl rfl Tryz.sizeOf33 rfl rfl rfl rfl ?_; clear hS; intro w hS
    refine nil ?_
    refine ⟨fun _ => ⟨hS.at b5, hS.at b6⟩, ?_⟩
    show wpA _ _ _ _ _ _ _ _ _ _
    refine a_end (by kernel_rfl) ?_
    refine unP ?_
    show bodyPost _ _ _ _ _ _
    exact ⟨rfl, _, (results_none rfl _ _ _), Done.ok (confirmF_ok (by unfold confE; simp only [hz, hy]; rw [if_neg (not_not_intro hm), if_neg hT, if_neg hW, hu, if_neg hG, if_neg (by rw [hD]; decide), if_neg (by rw [hB]; decide)]) hz) (by rw [← ordRow]; exact hS.sub (.cons _ (.cons _ (.cons _ (.cons _ (List.Sublist.refl _))))))⟩
  ·
    refine ⟨_, rfl, ?_⟩
    refine sbslice hS Tryz.underlying33 Tryz.sizeOf66 rfl Tryz.zeroValue66 rfl (.cons rfl rfl .nil) rfl ?_; clear hS; intro b119 w hS
    refine nil ?_
    refine ⟨fun _ => ⟨hS.at b5, hS.at b6⟩, ?_⟩
    show wpA _ _ _ _ _ _ _ _ _ _
    show wpA _ _ _ _ _ _ _ _ _ _
    refine a_step (i := 4) (is := []) (by kernel_rfl) ⟨?_, trivial⟩
    refine ⟨_, rfl, ?_⟩
    refine sv (yLdB rfl Tryz.isAgg33 (hS.at _) rfl) ?_
    refine nil ?_
    refine ⟨fun _ => ⟨hS.at b5, hS.at b6⟩, ?_⟩
    show wpA _ _ _ _ _ _ _ _ _ _
    show wpA _ _ _ _ _ _ _ _ _ _
    refine a_step (i := 16) (is := []) (by kernel_rfl) ⟨?_, trivial⟩
    refine ⟨_, rfl, ?_⟩
    refine sapp (bytes := 40) (size := 5) (v := rv) (m := 1) hS rfl rfl Tryz.underlying33 ti66 rfl rfl rfl rfl (by decide) (blk_cells (hS.at _)) rfl rfl (by have := hok.nord; omega) (by have := hok.nord; omega) ?_; clear hS; intro v120 w hS
    refine nil ?_
    refine ⟨fun _ => ⟨hS.at b5, hS.at b6⟩, ?_⟩
    show wpA _ _ _ _ _ _ _ _ _ _
    refine f_step 17 (by kernel_rfl) rfl (fun _ _ _ _ h => False.elim h) ⟨hS.at b5, hS.at b6⟩ (fun w hS => (yNil rfl)) ?_
    refine f_step 18 (by kernel_rfl) rfl (fun _ _ _ _ h => False.elim h) ⟨hS.at b5, hS.at b6⟩ (fun w hS => (fa64_5 rfl)) ?_
    show wpA _ _ _ _ _ _ _ _ _ _
    refine a_step (i := 19) (is := []) (by kernel_rfl) ⟨?_, trivial⟩
    refine ⟨_, rfl, ?_⟩
    obtain ⟨gr, capr, rfl, -⟩ := row_some (hS.row v120) (Nat.succ_pos _)
    refine sst hS rfl rfl Tryz.sizeOf33 rfl rfl rfl rfl ?_; clear hS; intro w hS
    refine nil ?_
    refine ⟨fun _ => ⟨hS.at b5, hS.at b6⟩, ?_⟩
    show wpA _ _ _ _ _ _ _ _ _ _
    refine a_end (by kernel_rfl) ?_
    refine unP ?_
    show bodyPost _ _ _ _ _ _
    exact ⟨rfl, _, (results_none rfl _ _ _), Done.ok (confirmF_ok (by unfold confE; simp only [hz, hy]; rw [if_neg (not_not_intro hm), if_neg hT, if_neg hW, hu, if_neg hG, if_neg (by rw [hD]; decide), if_neg (by rw [hB]; decide)]) hz) (by rw [← ordRow]; exact hS.sub (.cons _ (.cons _ (.cons _ (.cons _ (List.Sublist.refl _))))))⟩
end Go.Proofs.YtghgnofilbnbaaaGreat

/- part C7 -/
namespace Go.Proofs.YtghgnofilbnbaaaGreat
open Go Bx
theorem pE_catch {e x : Int} {b : Nat} {t : TypeId} {w : World} (hb : w.heap[b]? = some (.cells ([.int .i64 x] : List Value).toArray t (0, 0))) :
    CallsD Tryz.prog 62 #[.pointer (some ⟨b, 0, none⟩)] (.panicking (pE 29 e)) w fun en u' w' => en = .returned (.tuple #[]) ∧ u' = .panicking [{ v := .iface 29 (.int .i64 e), recovered := true }] ∧ Put b (.cells ([.int .i64 e] : List Value).toArray t (0, 0)) w w' := by
  refine callsD_of_wpS Tryz.func62 rfl fun c₀ cs hu => ?_
  have hc : w.cell? ⟨b, 0, none⟩ = some (.int .i64 x) := cell_of hb rfl
  apply wpS_seq
  apply wpS_region
  simp [wpOpsS, go_sem, recoverD, hu, pE, Tryz.ntmps62, Exit.thenS]
  apply wpS_seq
  apply wpS_region
  simp [wpOpsS, go_sem, recoverD, hu, pE, Tryz.ntmps62, Exit.thenS]
  refine wpS_cond (t := true) (by simp [Act.eval, Array.replicate]) ?_
  simp only [if_true]
  apply wpS_region
  have hz : w.frozen? ⟨b, 0, none⟩ = false := by simp [World.frozen?, hb]
  have hta : ∀ w, (Instr.typeAssert (.iface 29 (.int .i64 e)) 20 29 false).run Tryz.prog w = .ok (.int .i64 e) w := fun w => by
    simp [Instr.typeAssert, run_underlying Tryz.underlying29]
  have hb0 : (w.setCell ⟨b, 0, none⟩ (.int .i64 e)).heap[b]? = some (.cells ([.int .i64 e] : List Value).toArray t (0, 0)) := by
    simp [World.setCell, Array.getElem?_modify, hb]
  simp [wpOpsS, go_sem, hc, hz, hta, bodyPostS, results, Tryz.results62, Array.replicate]
  refine ⟨by simp [World.setCell], by simp [World.setCell], by simp [World.setCell], by simp [World.setCell], hb0, fun k _ hk => ?_⟩
  simp [World.setCell, Array.getElem?_modify, Ne.symm hk]
theorem pE_idle {b : Nat} {w : World} :
    CallsD Tryz.prog 62 #[.pointer (some ⟨b, 0, none⟩)] .returning w fun en u' w' => en = .returned (.tuple #[]) ∧ u' = .returning ∧ w' = w := by
  refine callsD_of_wpS Tryz.func62 rfl fun c₀ cs hu => ?_
  apply wpS_seq
  apply wpS_region
  simp [wpOpsS, go_sem, recoverD, hu, Tryz.ntmps62, Exit.thenS]
  apply wpS_seq
  apply wpS_region
  simp [wpOpsS, go_sem, recoverD, hu, Tryz.ntmps62, Exit.thenS]
  refine wpS_cond (t := false) (by simp [Act.eval, Array.replicate]) ?_
  simp only [Bool.false_eq_true, if_false]
  refine wpS_of_wp (wp_skip ?_)
  cases c₀
  simp_all [bodyPostS, results]

abbrev dfr (b : Nat) : Deferred := { target := .fn (.func 62) #[.pointer (some ⟨b, 0, none⟩)], args := #[] }
theorem leaveOk {fn : Func} {R : Ending → World → Prop} {n : Nat} {f : Fr} {b : Nat} {w : World} {v : Value} (hr : (results fn (mk n f).tmps).run Tryz.prog w = .ok v w) (h : R (.returned v) w) : Leaves Tryz.prog fn (mk n f).tmps R [dfr b] .returning w := by
  refine leaves_cons (f := 62) (args := #[.pointer (some ⟨b, 0, none⟩)]) (by simp) (by simp [go_sem]) ?_
  refine pE_idle.mono ?_
  rintro e u' w'' ⟨rfl, rfl, rfl⟩
  exact ⟨v, hr, h⟩
theorem leavePan {fn : Func} {R : Ending → World → Prop} {n : Nat} {f : Fr} {b : Nat} {w : World} {x e : Int} {t : TypeId} (hb : w.heap[b]? = some (.cells ([.int .i64 x] : List Value).toArray t (0, 0)))
    (hr : ∀ w', w'.heap[b]? = some (.cells ([.int .i64 e] : List Value).toArray t (0, 0)) → (results fn (mk n f).tmps).run Tryz.prog w' = .ok (.int .i64 e) w') (h : ∀ w', Put b (.cells ([.int .i64 e] : List Value).toArray t (0, 0)) w w' → R (.returned (.int .i64 e)) w') :
    Leaves Tryz.prog fn (mk n f).tmps R [dfr b] (.panicking (pE 29 e)) w := by
  refine leaves_cons (f := 62) (args := #[.pointer (some ⟨b, 0, none⟩)]) (by simp) (by simp [go_sem]) ?_
  refine (pE_catch hb).mono ?_
  rintro en u' w'' ⟨rfl, rfl, hp⟩
  exact ⟨_, hr _ hp.here, h _ hp⟩
def DoneD (F : Int × Rm) (I : Rm → Value → List Bx.Item) (w0 : World) (L : List Bx.Item) (e : Ending) (w : World) : Prop := ∃ rv, e = .returned (.int .i64 F.1) ∧ StX [] w0 w (I F.2 rv ++ L)
theorem DoneD.mk {F : Int × Rm} {I : Rm → Value → List Bx.Item} {w0 w : World} {L : List Bx.Item} {e : Int} {st : Rm} {rv : Value} (h : F = (e, st)) (hS : StX [] w0 w (I st rv ++ L)) : DoneD F I w0 L (.returned (.int .i64 e)) w := by
  subst h; exact ⟨rv, rfl, hS⟩
theorem Done.split {F : Int × Rm} {I : Rm → Value → List Bx.Item} {w0 w : World} {L : List Bx.Item} {e : Ending} (h : Done F I w0 L e w) : (∃ v, e = .returned v ∧ (F.1 = 0 ∧ v = .tuple #[] ∧ ∃ rv, StX [] w0 w (I F.2 rv ++ L))) ∨ ∃ c, e = .panicked c ∧ (F.1 ≠ 0 ∧ c = pE 29 F.1 ∧ ∃ rv, StX [] w0 w (I F.2 rv ++ L)) := by
  obtain ⟨rv, rfl, hS⟩ := h
  by_cases h0 : F.1 = 0
  · exact .inl ⟨_, by rw [if_pos h0], h0, rfl, rv, hS⟩
  · exact .inr ⟨_, by rw [if_neg h0], h0, rfl, rv, hS⟩
theorem front2 {S : List Nat} {w0 w : World} {x y : Bx.Item} {R L : List Bx.Item} (h : StX S w0 w (x :: y :: (R ++ L))) : StX S w0 w (R ++ (x :: y :: L)) := h.perm (List.perm_append_comm_assoc [x, y] R L)
theorem unfront2 {S : List Nat} {w0 w : World} {x y : Bx.Item} {R L : List Bx.Item} (h : StX S w0 w (R ++ (x :: y :: L))) : StX S w0 w (x :: y :: (R ++ L)) := h.perm (List.perm_append_comm_assoc R [x, y] L)
theorem holdCell {hold : List Int} {k : Int} (h : 0 ≤ k ∧ k < hold.length) : (hold.flatMap Bx.encI)[k.toNat * 1]? = some (.int .i64 (holdAt hold k)) := by
  have hl : k.toNat < hold.length := by omega
  rw [Nat.mul_one, flatI_get hl]
  unfold holdAt
  rw [List.getD_eq_getElem?_getD, List.getD_eq_getElem?_getD, List.getElem?_eq_getElem hl]
  rfl
theorem holdAt_mem {hold : List Int} {k : Int} (h : 0 ≤ k ∧ k < hold.length) : holdAt hold k ∈ hold := by
  have hl : k.toNat < hold.length := by omega
  unfold holdAt
  rw [List.getD_eq_getElem?_getD, List.getElem?_eq_getElem hl]
  exact List.getElem_mem _
theorem holdRow (v : Value) (l : List Int) (i : Nat) (x : Int) : rowI v 3 1 l.length ((l.set i x).flatMap Bx.encI) = rowI v 3 1 (l.set i x).length ((l.set i x).flatMap Bx.encI) := by rw [List.length_set]
theorem RmOk.tick {c : Crew} {acts : List Acn} {i : Nat} {st : Rm} {m : Int} (h : RmOk c acts i st) (hm : 0 ≤ m ∧ m ≤ 100000) : RmOk c acts i { st with now := m } := ⟨hm, h.len, h.hold, h.opn, h.nord, h.ords⟩
theorem DoneD.calls {g : FuncId} {args : Array Value} {F : Int × Rm} {I : Rm → Value → List Bx.Item} {w0 w : World} {L : List Bx.Item} (h : Calls Tryz.prog g args w (DoneD F I w0 L)) : CE Tryz.prog g args w (fun u w' => u = .int .i64 F.1 ∧ ∃ rv, StX [] w0 w' (I F.2 rv ++ L)) :=
  Calls.mono h (by rintro e w' ⟨rv, rfl, hS⟩; exact ⟨_, rfl, rfl, rv, hS⟩)
theorem front1 {S : List Nat} {w0 w : World} {x : Bx.Item} {R L : List Bx.Item} (h : StX S w0 w (x :: (R ++ L))) : StX S w0 w (R ++ (x :: L)) := h.perm (List.perm_append_comm_assoc [x] R L)
theorem mkRoom {w0 w : World} {p h m : Bx.Item} {L : List Bx.Item} (hS : StX [] w0 w (p :: h :: m :: L)) : StX [] w0 w (p :: h :: m :: rowI (.slice none 0 0) 66 5 0 [] :: rowI (.slice none 0 0) 29 1 0 [] :: L) :=
  StX.perm (L := rowI (.slice none 0 0) 66 5 0 [] :: rowI (.slice none 0 0) 29 1 0 [] :: ([p, h, m] ++ L)) ((hS.nilrow 29 1).nilrow 66 5) (List.perm_append_comm_assoc [_, _] [p, h, m] L)
end Go.Proofs.YtghgnofilbnbaaaGreat

/- part Ck18 -/
namespace Go.Proofs.YtghgnofilbnbaaaGreat
open Go Bx
set_option maxHeartbeats 4000000 in
/-- (*barrage/crew.room).do -/
theorem c_do {c : Crew} {acts : List Acn} {i : Nat} {x : Acn} {st : Rm} {a an aa : Option Addr} {cap cn ca p b : Nat} {kv hv rv : Value} {L : List Bx.Item} {w0 w : World} (h : RCrew w0 [.slice a c.ops.length cap, kv, .slice an c.kinds.length cn] c) (hc : CrewOk c) (ha : Sl w0 6 RAct (.slice aa acts.length ca) acts) (hok : RmOk c acts i st) (hx : ActOk c i x) (hall : ∀ (j : Nat) y, acts[j]? = some y → ActOk c j y) (hi : i < acts.length) (hn : acts.length ≤ 60) (hS : StX [] w0 w (blk p [.slice a c.ops.length cap, kv, .slice an c.kinds.length cn, .slice aa acts.length ca, .int .i64 st.now, hv, .map (some b), rv] 64 :: rowI hv 3 1 (st.hold).length ((st.hold).flatMap Bx.encI) :: mapI b (Value.int .i64) (opM st.opn) :: rowI rv 66 5 (st.ords).length ((st.ords).flatMap ordC) :: L)) : Calls Tryz.prog 37 #[.pointer (some ⟨p, 0, none⟩), .int .i64 (i : Int), .agg (actC x).toArray] w (DoneD (doF c acts i x st) (fun (st : Rm) (rv : Value) => [blk p [.slice a c.ops.length cap, kv, .slice an c.kinds.length cn, .slice aa acts.length ca, .int .i64 st.now, hv, .map (some b), rv] 64, rowI hv 3 1 (st.hold).length ((st.hold).flatMap Bx.encI), mapI b (Value.int .i64) (opM st.opn), rowI rv 66 5 (st.ords).length ((st.ords).flatMap ordC)]) w0 L) := by
  obtain ⟨ov, kv2, nv2, he, hso, -, hsn, hrm⟩ := id h
  cases he
  obtain ⟨a', cap', hv', hcap, hmx, helo⟩ := id hso
  obtain ⟨rfl, rfl⟩ := slice_inj hv'.symm
  obtain ⟨an', cn', hv2, hncap, hnmx, heln⟩ := id hsn
  obtain ⟨rfl, rfl⟩ := slice_inj hv2.symm
  obtain ⟨aa', ca', hv3, hacap, hamx, hela⟩ := id ha
  obtain ⟨rfl, rfl⟩ := slice_inj hv3.symm
  have hops := hc.nops
  refine enterD Tryz.func37 rfl Tryz.ntmps37 rfl ?_
  skip
  refine seq ?_
  refine region ?_
  refine sbox hS rfl rfl ?_; clear hS; intro b5 w hS
  refine salloc hS Tryz.zeroValue29 rfl ?_; clear hS; intro b6 w hS
  refine nil ?_
  show Code.wp _ _ _ _ _
  refine seq ?_
  refine region ?_
  refine sv (yFn (.cons rfl .nil)) ?_
  refine sdefer rfl ?_
  show Code.wp _ _ _ _ _
  refine seq ?_
  refine region_tailD mixed 7 (by kernel_rfl) rfl hS ?_
  refine qv (fun w hS => (fa86_0 rfl)) ?_
  refine qv (fun w hS => (yLdB rfl Tryz.isAgg3 (hS.at _) rfl)) ?_
  refine qv (fun w hS => (yMove rfl)) ?_
  refine qv (fun w hS => (yNil rfl)) ?_
  refine qv (fun w hS => (fa64_2 rfl)) ?_
  refine qv (fun w hS => (yLdB rfl Tryz.isAgg3 (hS.at _) rfl)) ?_
  refine qv (fun w hS => (yGeq rfl rfl)) ?_
  clear hS; refine qtl (fun w hS => ?_)
  refine sdem c_demand Tryz.call63 rfl rfl (fun hB w' hE => (leavePan ((hS.step hE).at b6) (fun w' hb => (resV1 rfl (rc1 rfl Tryz.isAgg29 hb rfl))) (fun w' hp => DoneD.mk (by unfold doF; exact if_pos (by have := of_decide_eq_false hB; omega)) (((hS.step hE).put hp).sub (.cons _ (.cons _ (List.Sublist.refl _))))))) (fun hB w hE => ?_); replace hS := hS.step hE; clear hE
  have hT : ¬ x.tm < st.now := by have := of_decide_eq_true hB; omega
  clear hB
  refine nil ?_
  show Code.wp _ _ _ _ _
  refine seq ?_
  refine regionD rfl ?_
  refine sv (yMove rfl) ?_
  refine sv (fa86_0 rfl) ?_
  refine sv (yLdB rfl Tryz.isAgg3 (hS.at _) rfl) ?_
  refine sv (yNil rfl) ?_
  refine sv (fa64_2 rfl) ?_
  refine sst hS rfl rfl Tryz.sizeOf3 rfl rfl rfl rfl ?_; clear hS; intro w hS
  refine nil ?_
  show Code.wp _ _ _ _ _
  refine seq ?_
  refine region_tailD mixed 25 (by kernel_rfl) rfl hS ?_
  replace hS : StX [] w0 w (blk b6 [.int .i64 0] 29 :: blk b5 [.int .i64 x.tm, .int .i64 x.who, .int .i64 x.dw, .int .i64 x.what, .int .i64 x.to, .int .i64 x.subj] 86 :: blk p [.slice a c.ops.length cap, kv, .slice an c.kinds.length cn, .slice aa acts.length ca, .int .i64 x.tm, hv, .map (some b), rv] 64 :: rowI hv 3 1 (st.hold).length ((st.hold).flatMap Bx.encI) :: mapI b (Value.int .i64) (opM st.opn) :: rowI rv 66 5 (st.ords).length ((st.ords).flatMap ordC) :: L) := hS
  have hxto := hx.to
  have hxwho := hx.who
  refine qv (fun w hS => (yMove rfl)) ?_
  refine qv (fun w hS => (yNil rfl)) ?_
  refine qv (fun w hS => (fa64_0 rfl)) ?_
  refine qv (fun w hS => (yLdBA rfl Tryz.isAgg26 Tryz.sizeOf26 (hS.at _) rfl rfl)) ?_
  refine qv (fun w hS => (fa86_1 rfl)) ?_
  refine qv (fun w hS => (yLdB rfl Tryz.isAgg3 (hS.at _) rfl)) ?_
  refine qv (fun w hS => (fa86_0 rfl)) ?_
  refine qv (fun w hS => (yLdB rfl Tryz.isAgg3 (hS.at _) rfl)) ?_
  refine qcall Tryz.call64 (.cons rfl (.cons rfl (.cons rfl .nil))) (fun w hS => (c_on (h.ext hS.ext) hx.who)) ?_
  refine qv (fun w hS => (yMove rfl)) ?_
  refine qg rfl rfl rfl (fun g w hS => (fa86_2 rfl)) (fun v32 g32 => ?_)
  refine qg rfl rfl rfl (fun g w hS => (yLdB (g32.1 g) Tryz.isAgg3 (hS.at _) rfl)) (fun v33 g33 => ?_)
  refine qg rfl rfl rfl (fun g w hS => (yNeq (g33.1 g) rfl)) (fun v34 g34 => ?_)
  refine qg rfl rfl rfl (fun g w hS => (yMove (g34.1 g))) (fun v35 g35 => ?_)
  refine qgg rfl rfl g35 (fun g w hS => (yMove rfl)) (fun v36 g36 => ?_)
  refine qgg rfl rfl g35 (fun g w hS => (yNil (g36.1 g))) (fun v37 g37 => ?_)
  refine qgg rfl rfl g35 (fun g w hS => (fa64_0 (g37.1 g))) (fun v38 g38 => ?_)
  refine qgg rfl rfl g35 (fun g w hS => (yLdBA (g38.1 g) Tryz.isAgg26 Tryz.sizeOf26 (hS.at _) rfl rfl)) (fun v39 g39 => ?_)
  refine qgg rfl rfl g35 (fun g w hS => (fa86_4 rfl)) (fun v40 g40 => ?_)
  refine qgg rfl rfl g35 (fun g w hS => (yLdB (g40.1 g) Tryz.isAgg3 (hS.at _) rfl)) (fun v41 g41 => ?_)
  refine qgg rfl rfl g35 (fun g w hS => (fa86_0 rfl)) (fun v42 g42 => ?_)
  refine qgg rfl rfl g35 (fun g w hS => (yLdB (g42.1 g) Tryz.isAgg3 (hS.at _) rfl)) (fun v43 g43 => ?_)
  refine qggc rfl rfl g35 Tryz.call64 (fun g => (.cons (g39.1 g) (.cons (g41.1 g) (.cons (g43.1 g) .nil)))) (fun g w hS => (c_on (h.ext hS.ext) hx.to)) (fun v44 g44 => ?_)
  refine qg rfl rfl rfl (fun g w hS => (yOr (g35.1 g) rfl (fun hB => (g44.1 ⟨g, hB⟩)))) (fun v45 g45 => ?_)
  refine qv (fun w hS => (yAnd rfl (fun hB => (g45.1 hB)) rfl)) ?_
  clear hS; refine qtl (fun w hS => ?_)
  refine sdem c_demand Tryz.call63 rfl rfl (fun hB w' hE => (leavePan ((hS.step hE).at b6) (fun w' hb => (resV1 rfl (rc1 rfl Tryz.isAgg29 hb rfl))) (fun w' hp => DoneD.mk (by unfold doF; rw [if_neg hT]; exact if_pos hB) (((hS.step hE).put hp).sub (.cons _ (.cons _ (List.Sublist.refl _))))))) (fun hB w hE => ?_); replace hS := hS.step hE; clear hE
  have hD : dutyA c x = true := hB
  clear hB
  have hdo : doF c acts i x st = doneF c acts i x { st with now := x.tm } := by unfold doF; rw [if_neg hT, if_neg (by rw [hD]; decide)]
  refine nil ?_
  show Code.wp _ _ _ _ _
  refine seq ?_
  refine seq ?_
  refine cutD (.cons (us rfl (us rfl (us rfl (us rfl (us rfl (us rfl (us rfl (us rfl (us rfl (us rfl (us rfl (us rfl (us rfl (us rfl (us rfl (us rfl (us rfl (us rfl (us rfl (us rfl (us rfl (us rfl (us rfl (us rfl (us rfl (us rfl (us rfl (us rfl (us rfl (us rfl (us rfl (us rfl (us rfl (us rfl (us rfl (us rfl (us rfl (us rfl (us rfl (us rfl (us rfl (us rfl (ini_get (t := 0) rfl))))))))))))))))))))))))))))))))))))))))))) (.cons (us rfl (us rfl (us rfl (us rfl (us rfl (us rfl (us rfl (us rfl (us rfl (us rfl (us rfl (us rfl (us rfl (us rfl (us rfl (us rfl (us rfl (us rfl (us rfl (us rfl (us rfl (us rfl (us rfl (us rfl (us rfl (us rfl (us rfl (us rfl (us rfl (us rfl (us rfl (us rfl (us rfl (us rfl (us rfl (us rfl (us rfl (us rfl (us rfl (us rfl (us rfl (us rfl (ini_get (t := 1) rfl))))))))))))))))))))))))))))))))))))))))))) (.cons (us rfl (us rfl (us rfl (us rfl (us rfl (us rfl (us rfl (us rfl (us rfl (us rfl (us rfl (us rfl (us rfl (us rfl (us rfl (us rfl (us rfl (us rfl (us rfl (us rfl (us rfl (us rfl (us rfl (us rfl (us rfl (us rfl (us rfl (us rfl (us rfl (us rfl (us rfl (us rfl (us rfl (us rfl (us rfl (us rfl (us rfl (us rfl (us rfl (us rfl (us rfl uh))))))))))))))))))))))))))))))))))))))))) (.cons (us rfl (us rfl (us rfl (us rfl (us rfl (us rfl (us rfl (us rfl (us rfl (us rfl (us rfl (us rfl (us rfl (us rfl (us rfl (us rfl (us rfl (us rfl (us rfl (us rfl (us rfl (us rfl (us rfl (us rfl (us rfl (us rfl (us rfl (us rfl (us rfl (us rfl (us rfl (us rfl (us rfl (us rfl (us rfl (us rfl (us rfl (us rfl (us rfl (us rfl uh)))))))))))))))))))))))))))))))))))))))) .nil)))) ?_
  rintro f ⟨h0, h1, h5, h6, -⟩
  refine regionD rfl ?_
  refine sv (fa86_2 h5) ?_
  refine sv (yLdB rfl Tryz.isAgg3 (hS.at _) rfl) ?_
  refine nil ?_
  show Code.wp _ _ _ _ _
  refine block ?_
  refine seq ?_
  refine regionD rfl ?_
  refine sv (yEql rfl rfl) ?_
  refine sv (yAsg rfl) ?_
  refine nil ?_
  show Code.wp _ _ _ _ _
  refine condD rfl (fun c53 => ?_) (fun c53 => ?_)
  ·
    simp only [Bool.and_eq_true, Bool.or_eq_true, Bool.and_eq_false_iff, Bool.or_eq_false_iff, decide_eq_true_eq, decide_eq_false_iff_not, Bool.not_eq_true, Bool.not_eq_false, Bool.not_not, Bool.not_eq_eq_eq_not, Bool.not_true, Bool.not_false, Bool.false_eq_true, Bool.true_eq_false, ne_eq, Decidable.not_not, not_false_eq_true, not_true_eq_false] at c53
    refine seq ?_
    refine region_drawD mixed (by kernel_rfl) rfl hS ?_
    have hwh := hx.what
    rw [show manyA c i x = c.keys.length from if_neg (by omega) |>.trans (if_neg (by omega)), ← hok.len] at hwh
    obtain ⟨g, chv, rfl, -⟩ := row_some (hS.row hv) (by omega)
    have hb1 := hok.hold _ (holdAt_mem hwh)
    refine qv (fun w hS => (yMove h0)) ?_
    refine qv (fun w hS => (yNil rfl)) ?_
    refine qv (fun w hS => (fa64_3 rfl)) ?_
    refine qv (fun w hS => (yLdB rfl Tryz.isAgg37 (hS.at _) rfl)) ?_
    refine qv (fun w hS => (fa86_3 h5)) ?_
    refine qv (fun w hS => (yLdB rfl Tryz.isAgg3 (hS.at _) rfl)) ?_
    refine qv (fun w hS => (yIx rfl rfl Tryz.runUnderlying37 Tryz.sizeOf3 (by omega) (by omega))) ?_
    refine qv (fun w hS => (yLd rfl Tryz.isAgg3 ((row_at (hS.row (.slice (some ⟨g, 0, none⟩) st.hold.length chv)) rfl (by omega)).at (j := x.what.toNat * 1) (holdCell hwh)))) ?_
    refine qv (fun w hS => (yAsg rfl)) ?_
    clear hS; refine qnil (fun w hS => ?_)
    show Code.wp _ _ _ _ _
    refine seq ?_
    refine region_tailD mixed 13 (by kernel_rfl) rfl hS ?_
    refine qv (fun w hS => (yMove rfl)) ?_
    refine qv (fun w hS => (yLss rfl rfl)) ?_
    refine qv (fun w hS => (yMove rfl)) ?_
    refine qg rfl rfl rfl (fun g w hS => (yMove h0)) (fun v66 g66 => ?_)
    refine qg rfl rfl rfl (fun g w hS => (yNil (g66.1 g))) (fun v67 g67 => ?_)
    refine qg rfl rfl rfl (fun g w hS => (fa64_0 (g67.1 g))) (fun v68 g68 => ?_)
    refine qg rfl rfl rfl (fun g w hS => (yLdBA (g68.1 g) Tryz.isAgg26 Tryz.sizeOf26 (hS.at _) rfl rfl)) (fun v69 g69 => ?_)
    refine qg rfl rfl rfl (fun g w hS => (yMove rfl)) (fun v70 g70 => ?_)
    refine qg rfl rfl rfl (fun g w hS => (fa86_0 h5)) (fun v71 g71 => ?_)
    refine qg rfl rfl rfl (fun g w hS => (yLdB (g71.1 g) Tryz.isAgg3 (hS.at _) rfl)) (fun v72 g72 => ?_)
    refine qgc rfl rfl rfl Tryz.call64 (fun g => (.cons (g69.1 g) (.cons (g70.1 g) (.cons (g72.1 g) .nil)))) (fun g w hS => (c_on (h.ext hS.ext) (by have := of_decide_eq_false g; omega))) (fun v73 g73 => ?_)
    refine qg rfl rfl rfl (fun g w hS => (yNot (g73.1 g))) (fun v74 g74 => ?_)
    refine qv (fun w hS => (yOr rfl rfl (fun hB => (g74.1 hB)))) ?_
    clear hS; refine qtl (fun w hS => ?_)
    refine sdem c_demand Tryz.call63 rfl rfl (fun hB w' hE => (leavePan ((hS.step hE).at b6) (fun w' hb => (resV1 rfl (rc1 h6 Tryz.isAgg29 hb rfl))) (fun w' hp => DoneD.mk (by rw [hdo]; unfold doneF takeF; rw [if_pos c53]; exact if_pos hB) (((hS.step hE).put hp).sub (.cons _ (.cons _ (List.Sublist.refl _))))))) (fun hB w hE => ?_); replace hS := hS.step hE; clear hE
    refine nil ?_
    show Code.wp _ _ _ _ _
    refine region_tailD mixed 9 (by kernel_rfl) rfl hS ?_
    refine qv (fun w hS => (yMove h0)) ?_
    refine qv (fun w hS => (yNil rfl)) ?_
    refine qv (fun w hS => (fa64_3 rfl)) ?_
    refine qv (fun w hS => (yLdB rfl Tryz.isAgg37 (hS.at _) rfl)) ?_
    refine qv (fun w hS => (fa86_3 h5)) ?_
    refine qv (fun w hS => (yLdB rfl Tryz.isAgg3 (hS.at _) rfl)) ?_
    refine qv (fun w hS => (fa86_1 h5)) ?_
    refine qv (fun w hS => (yLdB rfl Tryz.isAgg3 (hS.at _) rfl)) ?_
    refine qv (fun w hS => (yIx rfl rfl Tryz.runUnderlying37 Tryz.sizeOf3 (by omega) (by omega))) ?_
    clear hS; refine qtl (fun w hS => ?_)
    refine srst (m := st.hold.length) (cap := chv) (sz := 1) (vs := [.int .i64 x.who]) hS rfl rfl Tryz.sizeOf3 rfl rfl (by omega) rfl ?_; clear hS; intro w hS; rw [flatI_set (by omega), holdRow] at hS
    refine nil ?_
    show Code.wp _ _ _ _ _
    refine seq ?_
    refine cutD (.cons (us rfl (us rfl (us rfl (us rfl (us rfl (us rfl (us rfl (us rfl (us rfl (us rfl (us rfl (us rfl (us rfl (us rfl (us rfl (us rfl (us rfl (us rfl (us rfl (us rfl (us rfl (us rfl (us rfl (us rfl (us rfl (us rfl (us rfl (us rfl (us rfl (us rfl (us rfl (us rfl (us rfl (us rfl (us rfl (us rfl h6)))))))))))))))))))))))))))))))))))) .nil) ?_
    rintro f ⟨h6, -⟩
    refine regionD rfl ?_
    refine sst hS h6 rfl Tryz.sizeOf29 rfl rfl rfl rfl ?_; clear hS; intro w hS
    refine nil ?_
    show Code.wp _ _ _ _ _
    refine wp_ret ?_
    exact leaveOk (resV1 rfl (rc1 h6 Tryz.isAgg29 (hS.at b6) rfl)) (DoneD.mk (by rw [hdo]; unfold doneF takeF; rw [if_pos c53, if_neg (by rw [hB]; decide)]) (hS.sub (.cons _ (.cons _ (List.Sublist.refl _)))))
  ·
    simp only [Bool.and_eq_true, Bool.or_eq_true, Bool.and_eq_false_iff, Bool.or_eq_false_iff, decide_eq_true_eq, decide_eq_false_iff_not, Bool.not_eq_true, Bool.not_eq_false, Bool.not_not, Bool.not_eq_eq_eq_not, Bool.not_true, Bool.not_false, Bool.false_eq_true, Bool.true_eq_false, ne_eq, Decidable.not_not, not_false_eq_true, not_true_eq_false] at c53
    refine seq ?_
    refine regionD rfl ?_
    refine sv (yEql rfl rfl) ?_
    refine sv (yAsg rfl) ?_
    refine nil ?_
    show Code.wp _ _ _ _ _
    refine condD rfl (fun c86 => ?_) (fun c86 => ?_)
    ·
      simp only [Bool.and_eq_true, Bool.or_eq_true, Bool.and_eq_false_iff, Bool.or_eq_false_iff, decide_eq_true_eq, decide_eq_false_iff_not, Bool.not_eq_true, Bool.not_eq_false, Bool.not_not, Bool.not_eq_eq_eq_not, Bool.not_true, Bool.not_false, Bool.false_eq_true, Bool.true_eq_false, ne_eq, Decidable.not_not, not_false_eq_true, not_true_eq_false] at c86
      refine seq ?_
      refine region_tailD mixed 11 (by kernel_rfl) rfl hS ?_
      have hwh := hx.what
      rw [show manyA c i x = c.keys.length from if_neg (by omega) |>.trans (if_neg (by omega)), ← hok.len] at hwh
      obtain ⟨g, chv, rfl, -⟩ := row_some (hS.row hv) (by omega)
      have hb1 := hok.hold _ (holdAt_mem hwh)
      refine qv (fun w hS => (yMove h0)) ?_
      refine qv (fun w hS => (yNil rfl)) ?_
      refine qv (fun w hS => (fa64_3 rfl)) ?_
      refine qv (fun w hS => (yLdB rfl Tryz.isAgg37 (hS.at _) rfl)) ?_
      refine qv (fun w hS => (fa86_3 h5)) ?_
      refine qv (fun w hS => (yLdB rfl Tryz.isAgg3 (hS.at _) rfl)) ?_
      refine qv (fun w hS => (yIx rfl rfl Tryz.runUnderlying37 Tryz.sizeOf3 (by omega) (by omega))) ?_
      refine qv (fun w hS => (yLd rfl Tryz.isAgg3 ((row_at (hS.row (.slice (some ⟨g, 0, none⟩) st.hold.length chv)) rfl (by omega)).at (j := x.what.toNat * 1) (holdCell hwh)))) ?_
      refine qv (fun w hS => (fa86_1 h5)) ?_
      refine qv (fun w hS => (yLdB rfl Tryz.isAgg3 (hS.at _) rfl)) ?_
      refine qv (fun w hS => (yEql rfl rfl)) ?_
      clear hS; refine qtl (fun w hS => ?_)
      refine sdem c_demand Tryz.call63 rfl rfl (fun hB w' hE => (leavePan ((hS.step hE).at b6) (fun w' hb => (resV1 rfl (rc1 h6 Tryz.isAgg29 hb rfl))) (fun w' hp => DoneD.mk (by rw [hdo]; unfold doneF giveF; rw [if_neg c53, if_pos c86]; exact if_pos (of_decide_eq_false hB)) (((hS.step hE).put hp).sub (.cons _ (.cons _ (List.Sublist.refl _))))))) (fun hB w hE => ?_); replace hS := hS.step hE; clear hE
      refine nil ?_
      show Code.wp _ _ _ _ _
      refine region_tailD mixed 9 (by kernel_rfl) rfl hS ?_
      refine qv (fun w hS => (yMove h0)) ?_
      refine qv (fun w hS => (yNil rfl)) ?_
      refine qv (fun w hS => (fa64_3 rfl)) ?_
      refine qv (fun w hS => (yLdB rfl Tryz.isAgg37 (hS.at _) rfl)) ?_
      refine qv (fun w hS => (fa86_3 h5)) ?_
      refine qv (fun w hS => (yLdB rfl Tryz.isAgg3 (hS.at _) rfl)) ?_
      refine qv (fun w hS => (fa86_4 h5)) ?_
      refine qv (fun w hS => (yLdB rfl Tryz.isAgg3 (hS.at _) rfl)) ?_
      refine qv (fun w hS => (yIx rfl rfl Tryz.runUnderlying37 Tryz.sizeOf3 (by omega) (by omega))) ?_
      clear hS; refine qtl (fun w hS => ?_)
      refine srst (m := st.hold.length) (cap := chv) (sz := 1) (vs := [.int .i64 x.to]) hS rfl rfl Tryz.sizeOf3 rfl rfl (by omega) rfl ?_; clear hS; intro w hS; rw [flatI_set (by omega), holdRow] at hS
      refine nil ?_
      show Code.wp _ _ _ _ _
      refine seq ?_
      refine regionD rfl ?_
      refine sst hS h6 rfl Tryz.sizeOf29 rfl rfl rfl rfl ?_; clear hS; intro w hS
      refine nil ?_
      show Code.wp _ _ _ _ _
      refine wp_ret ?_
      exact leaveOk (resV1 rfl (rc1 h6 Tryz.isAgg29 (hS.at b6) rfl)) (DoneD.mk (by rw [hdo]; unfold doneF giveF; rw [if_neg c53, if_pos c86, if_neg (not_not_intro (of_decide_eq_true hB))]) (hS.sub (.cons _ (.cons _ (List.Sublist.refl _)))))
    ·
      simp only [Bool.and_eq_true, Bool.or_eq_true, Bool.and_eq_false_iff, Bool.or_eq_false_iff, decide_eq_true_eq, decide_eq_false_iff_not, Bool.not_eq_true, Bool.not_eq_false, Bool.not_not, Bool.not_eq_eq_eq_not, Bool.not_true, Bool.not_false, Bool.false_eq_true, Bool.true_eq_false, ne_eq, Decidable.not_not, not_false_eq_true, not_true_eq_false] at c86
      refine seq ?_
      refine regionD rfl ?_
      refine sv (yEql rfl rfl) ?_
      refine sv (yAsg rfl) ?_
      refine nil ?_
      show Code.wp _ _ _ _ _
      refine condD rfl (fun c109 => ?_) (fun c109 => ?_)
      ·
        simp only [Bool.and_eq_true, Bool.or_eq_true, Bool.and_eq_false_iff, Bool.or_eq_false_iff, decide_eq_true_eq, decide_eq_false_iff_not, Bool.not_eq_true, Bool.not_eq_false, Bool.not_not, Bool.not_eq_eq_eq_not, Bool.not_true, Bool.not_false, Bool.false_eq_true, Bool.true_eq_false, ne_eq, Decidable.not_not, not_false_eq_true, not_true_eq_false] at c109
        refine seq ?_
        refine region_tailD mixed 11 (by kernel_rfl) rfl hS ?_
        have hwh := hx.what
        rw [show manyA c i x = c.keys.length from if_neg (by omega) |>.trans (if_neg (by omega)), ← hok.len] at hwh
        obtain ⟨g, chv, rfl, -⟩ := row_some (hS.row hv) (by omega)
        have hb1 := hok.hold _ (holdAt_mem hwh)
        refine qv (fun w hS => (yMove h0)) ?_
        refine qv (fun w hS => (yNil rfl)) ?_
        refine qv (fun w hS => (fa64_3 rfl)) ?_
        refine qv (fun w hS => (yLdB rfl Tryz.isAgg37 (hS.at _) rfl)) ?_
        refine qv (fun w hS => (fa86_3 h5)) ?_
        refine qv (fun w hS => (yLdB rfl Tryz.isAgg3 (hS.at _) rfl)) ?_
        refine qv (fun w hS => (yIx rfl rfl Tryz.runUnderlying37 Tryz.sizeOf3 (by omega) (by omega))) ?_
        refine qv (fun w hS => (yLd rfl Tryz.isAgg3 ((row_at (hS.row (.slice (some ⟨g, 0, none⟩) st.hold.length chv)) rfl (by omega)).at (j := x.what.toNat * 1) (holdCell hwh)))) ?_
        refine qv (fun w hS => (fa86_1 h5)) ?_
        refine qv (fun w hS => (yLdB rfl Tryz.isAgg3 (hS.at _) rfl)) ?_
        refine qv (fun w hS => (yEql rfl rfl)) ?_
        clear hS; refine qtl (fun w hS => ?_)
        refine sdem c_demand Tryz.call63 rfl rfl (fun hB w' hE => (leavePan ((hS.step hE).at b6) (fun w' hb => (resV1 rfl (rc1 h6 Tryz.isAgg29 hb rfl))) (fun w' hp => DoneD.mk (by rw [hdo]; unfold doneF giveF; rw [if_neg c53, if_neg c86, if_pos c109]; exact if_pos (of_decide_eq_false hB)) (((hS.step hE).put hp).sub (.cons _ (.cons _ (List.Sublist.refl _))))))) (fun hB w hE => ?_); replace hS := hS.step hE; clear hE
        refine nil ?_
        show Code.wp _ _ _ _ _
        refine region_tailD mixed 7 (by kernel_rfl) rfl hS ?_
        refine qv (fun w hS => (yMove h0)) ?_
        refine qv (fun w hS => (yNil rfl)) ?_
        refine qv (fun w hS => (fa64_3 rfl)) ?_
        refine qv (fun w hS => (yLdB rfl Tryz.isAgg37 (hS.at _) rfl)) ?_
        refine qv (fun w hS => (fa86_3 h5)) ?_
        refine qv (fun w hS => (yLdB rfl Tryz.isAgg3 (hS.at _) rfl)) ?_
        refine qv (fun w hS => (yIx rfl rfl Tryz.runUnderlying37 Tryz.sizeOf3 (by omega) (by omega))) ?_
        clear hS; refine qtl (fun w hS => ?_)
        refine srst (m := st.hold.length) (cap := chv) (sz := 1) (vs := [.int .i64 (-1)]) hS rfl rfl Tryz.sizeOf3 rfl rfl (by omega) rfl ?_; clear hS; intro w hS; rw [flatI_set (by omega), holdRow] at hS
        refine nil ?_
        show Code.wp _ _ _ _ _
        refine seq ?_
        refine regionD rfl ?_
        refine sst hS h6 rfl Tryz.sizeOf29 rfl rfl rfl rfl ?_; clear hS; intro w hS
        refine nil ?_
        show Code.wp _ _ _ _ _
        refine wp_ret ?_
        exact leaveOk (resV1 rfl (rc1 h6 Tryz.isAgg29 (hS.at b6) rfl)) (DoneD.mk (by rw [hdo]; unfold doneF giveF; rw [if_neg c53, if_neg c86, if_pos c109, if_neg (not_not_intro (of_decide_eq_true hB))]) (hS.sub (.cons _ (.cons _ (List.Sublist.refl _)))))
      ·
        simp only [Bool.and_eq_true, Bool.or_eq_true, Bool.and_eq_false_iff, Bool.or_eq_false_iff, decide_eq_true_eq, decide_eq_false_iff_not, Bool.not_eq_true, Bool.not_eq_false, Bool.not_not, Bool.not_eq_eq_eq_not, Bool.not_true, Bool.not_false, Bool.false_eq_true, Bool.true_eq_false, ne_eq, Decidable.not_not, not_false_eq_true, not_true_eq_false] at c109
        refine seq ?_
        refine regionD rfl ?_
        refine sv (yEql rfl rfl) ?_
        refine sv (yAsg rfl) ?_
        refine nil ?_
        show Code.wp _ _ _ _ _
        refine condD rfl (fun c130 => ?_) (fun c130 => ?_)
        ·
          simp only [Bool.and_eq_true, Bool.or_eq_true, Bool.and_eq_false_iff, Bool.or_eq_false_iff, decide_eq_true_eq, decide_eq_false_iff_not, Bool.not_eq_true, Bool.not_eq_false, Bool.not_not, Bool.not_eq_eq_eq_not, Bool.not_true, Bool.not_false, Bool.false_eq_true, Bool.true_eq_false, ne_eq, Decidable.not_not, not_false_eq_true, not_true_eq_false] at c130
          refine regionD rfl ?_
          refine sv (yMove h0) ?_
          refine sv (yMove h1) ?_
          refine sv (yLdBA h5 Tryz.isAgg86 Tryz.sizeOf86 (hS.at _) rfl rfl) ?_
          refine scallP Tryz.call65 (.cons rfl (.cons rfl (.cons rfl .nil))) ((c_order (st := { st with now := x.tm }) (rv := rv) h hc ha (RmOk.tick hok hx.tm) hx hall hi hn (front2 (R := [blk p [.slice a c.ops.length cap, kv, .slice an c.kinds.length cn, .slice aa acts.length ca, .int .i64 x.tm, hv, .map (some b), rv] 64, rowI hv 3 1 (st.hold).length ((st.hold).flatMap Bx.encI), mapI b (Value.int .i64) (opM st.opn), rowI rv 66 5 (st.ords).length ((st.ords).flatMap ordC)]) hS) c130).mono (fun e w h => Done.split h)) (fun c' w' hR => ?_) (fun v' w hR => ?_)
          · obtain ⟨h0, rfl, rv', hS2⟩ := hR
            replace hS2 := unfront2 hS2
            exact leavePan (hS2.at b6) (fun w' hb => (resV1 rfl (rc1 h6 Tryz.isAgg29 hb rfl))) (fun w' hp => ⟨_, by rw [hdo]; unfold doneF; rw [if_neg c53, if_neg c86, if_neg c109, if_pos c130], by rw [hdo]; unfold doneF; rw [if_neg c53, if_neg c86, if_neg c109, if_pos c130]; exact (hS2.put hp).sub (.cons _ (.cons _ (List.Sublist.refl _)))⟩)
          obtain ⟨h0, rfl, rv', hS2⟩ := hR; clear hS; have hS := unfront2 hS2; clear hS2
          refine nil ?_
          show Code.wp _ _ _ _ _
          refine seq ?_
          refine regionD rfl ?_
          refine sst hS h6 rfl Tryz.sizeOf29 rfl rfl rfl rfl ?_; clear hS; intro w hS
          refine nil ?_
          show Code.wp _ _ _ _ _
          refine wp_ret ?_
          exact leaveOk (resV1 rfl (rc1 h6 Tryz.isAgg29 (hS.at b6) rfl)) ⟨_, by (rw [hdo]; unfold doneF; rw [if_neg c53, if_neg c86, if_neg c109, if_pos c130, h0]; rfl), by rw [hdo]; unfold doneF; rw [if_neg c53, if_neg c86, if_neg c109, if_pos c130]; exact hS.sub (.cons _ (.cons _ (List.Sublist.refl _)))⟩
        ·
          simp only [Bool.and_eq_true, Bool.or_eq_true, Bool.and_eq_false_iff, Bool.or_eq_false_iff, decide_eq_true_eq, decide_eq_false_iff_not, Bool.not_eq_true, Bool.not_eq_false, Bool.not_not, Bool.not_eq_eq_eq_not, Bool.not_true, Bool.not_false, Bool.false_eq_true, Bool.true_eq_false, ne_eq, Decidable.not_not, not_false_eq_true, not_true_eq_false] at c130
          refine seq ?_
          refine regionD rfl ?_
          refine sv (yEql rfl rfl) ?_
          refine sv (yAsg rfl) ?_
          refine nil ?_
          show Code.wp _ _ _ _ _
          refine condD rfl (fun c136 => ?_) (fun c136 => ?_)
          ·
            simp only [Bool.and_eq_true, Bool.or_eq_true, Bool.and_eq_false_iff, Bool.or_eq_false_iff, decide_eq_true_eq, decide_eq_false_iff_not, Bool.not_eq_true, Bool.not_eq_false, Bool.not_not, Bool.not_eq_eq_eq_not, Bool.not_true, Bool.not_false, Bool.false_eq_true, Bool.true_eq_false, ne_eq, Decidable.not_not, not_false_eq_true, not_true_eq_false] at c136
            refine regionD rfl ?_
            refine sv (yMove h0) ?_
            refine sv (yMove h1) ?_
            refine sv (yLdBA h5 Tryz.isAgg86 Tryz.sizeOf86 (hS.at _) rfl rfl) ?_
            refine scallP Tryz.call66 (.cons rfl (.cons rfl (.cons rfl .nil))) ((c_confirm (st := { st with now := x.tm }) (rv := rv) h hc ha (RmOk.tick hok hx.tm) hx hall hi hn (front2 (R := [blk p [.slice a c.ops.length cap, kv, .slice an c.kinds.length cn, .slice aa acts.length ca, .int .i64 x.tm, hv, .map (some b), rv] 64, rowI hv 3 1 (st.hold).length ((st.hold).flatMap Bx.encI), mapI b (Value.int .i64) (opM st.opn), rowI rv 66 5 (st.ords).length ((st.ords).flatMap ordC)]) hS)).mono (fun e w h => Done.split h)) (fun c' w' hR => ?_) (fun v' w hR => ?_)
            · obtain ⟨h0, rfl, rv', hS2⟩ := hR
              replace hS2 := unfront2 hS2
              exact leavePan (hS2.at b6) (fun w' hb => (resV1 rfl (rc1 h6 Tryz.isAgg29 hb rfl))) (fun w' hp => ⟨_, by rw [hdo]; unfold doneF; rw [if_neg c53, if_neg c86, if_neg c109, if_neg c130, if_pos c136], by rw [hdo]; unfold doneF; rw [if_neg c53, if_neg c86, if_neg c109, if_neg c130, if_pos c136]; exact (hS2.put hp).sub (.cons _ (.cons _ (List.Sublist.refl _)))⟩)
            obtain ⟨h0, rfl, rv', hS2⟩ := hR; clear hS; have hS := unfront2 hS2; clear hS2
            refine nil ?_
            show Code.wp _ _ _ _ _
            refine seq ?_
            refine regionD rfl ?_
            refine sst hS h6 rfl Tryz.sizeOf29 rfl rfl rfl rfl ?_; clear hS; intro w hS
            refine nil ?_
            show Code.wp _ _ _ _ _
            refine wp_ret ?_
            exact leaveOk (resV1 rfl (rc1 h6 Tryz.isAgg29 (hS.at b6) rfl)) ⟨_, by (rw [hdo]; unfold doneF; rw [if_neg c53, if_neg c86, if_neg c109, if_neg c130, if_pos c136, h0]; rfl), by rw [hdo]; unfold doneF; rw [if_neg c53, if_neg c86, if_neg c109, if_neg c130, if_pos c136]; exact hS.sub (.cons _ (.cons _ (List.Sublist.refl _)))⟩
          ·
            simp only [Bool.and_eq_true, Bool.or_eq_true, Bool.and_eq_false_iff, Bool.or_eq_false_iff, decide_eq_true_eq, decide_eq_false_iff_not, Bool.not_eq_true, Bool.not_eq_false, Bool.not_not, Bool.not_eq_eq_eq_not, Bool.not_true, Bool.not_false, Bool.false_eq_true, Bool.true_eq_false, ne_eq, Decidable.not_not, not_false_eq_true, not_true_eq_false] at c136
            refine regionD rfl ?_
            refine sv (yMove h0) ?_
            refine sv (yLdBA h5 Tryz.isAgg86 Tryz.sizeOf86 (hS.at _) rfl rfl) ?_
            refine scallP Tryz.call67 (.cons rfl (.cons rfl .nil)) ((c_cancel (st := { st with now := x.tm }) (rv := rv) h hc ha (RmOk.tick hok hx.tm) hx hall hi hn (front2 (R := [blk p [.slice a c.ops.length cap, kv, .slice an c.kinds.length cn, .slice aa acts.length ca, .int .i64 x.tm, hv, .map (some b), rv] 64, rowI hv 3 1 (st.hold).length ((st.hold).flatMap Bx.encI), mapI b (Value.int .i64) (opM st.opn), rowI rv 66 5 (st.ords).length ((st.ords).flatMap ordC)]) hS)).mono (fun e w h => Done.split h)) (fun c' w' hR => ?_) (fun v' w hR => ?_)
            · obtain ⟨h0, rfl, rv', hS2⟩ := hR
              replace hS2 := unfront2 hS2
              exact leavePan (hS2.at b6) (fun w' hb => (resV1 rfl (rc1 h6 Tryz.isAgg29 hb rfl))) (fun w' hp => ⟨_, by rw [hdo]; unfold doneF; rw [if_neg c53, if_neg c86, if_neg c109, if_neg c130, if_neg c136], by rw [hdo]; unfold doneF; rw [if_neg c53, if_neg c86, if_neg c109, if_neg c130, if_neg c136]; exact (hS2.put hp).sub (.cons _ (.cons _ (List.Sublist.refl _)))⟩)
            obtain ⟨h0, rfl, rv', hS2⟩ := hR; clear hS; have hS := unfront2 hS2; clear hS2
            refine nil ?_
            show Code.wp _ _ _ _ _
            refine seq ?_
            refine regionD rfl ?_
            refine sst hS h6 rfl Tryz.sizeOf29 rfl rfl rfl rfl ?_; clear hS; intro w hS
            refine nil ?_
            show Code.wp _ _ _ _ _
            refine wp_ret ?_
            exact leaveOk (resV1 rfl (rc1 h6 Tryz.isAgg29 (hS.at b6) rfl)) ⟨_, by (rw [hdo]; unfold doneF; rw [if_neg c53, if_neg c86, if_neg c109, if_neg c130, if_neg c136, h0]; rfl), by rw [hdo]; unfold doneF; rw [if_neg c53, if_neg c86, if_neg c109, if_neg c130, if_neg c136]; exact hS.sub (.cons _ (.cons _ (List.Sublist.refl _)))⟩
end Go.Proofs.YtghgnofilbnbaaaGreat

/- part C8 -/
namespace Bx
open Go Go.RowKit
def firstA (c : Crew) : List Acn → Int → Int
  | [], _ => 0
  | a :: l, i => if actE c i a ≠ 0 then actE c i a else firstA c l (i + 1)
def playE (c : Crew) (acts : List Acn) : Int := if (checkC c).2.2 ≠ 0 then (checkC c).2.2 else if (60 : Int) < acts.length then 3 else firstA c acts 0
def rm0 (c : Crew) : Rm := ⟨0, List.replicate c.keys.length (-1), [], []⟩
def plN (c : Crew) (acts : List Acn) : Nat → List Int × Rm
  | 0 => ([], rm0 c)
  | k + 1 => ((plN c acts k).1 ++ [(doF c acts k (actAt acts k) (plN c acts k).2).1], (doF c acts k (actAt acts k) (plN c acts k).2).2)
theorem plN_len (c : Crew) (acts : List Acn) : ∀ k, (plN c acts k).1.length = k
  | 0 => rfl
  | k + 1 => by simp [plN, plN_len c acts k]
theorem actAt_nat {acts : List Acn} {k : Nat} {x : Acn} (h : acts[k]? = some x) : actAt acts (k : Int) = x := actAt_hit rfl h
theorem firstA_ok {c : Crew} : ∀ {l : List Acn} {i : Int}, firstA c l i = 0 → ∀ (j : Nat) y, l[j]? = some y → ActOk c (i + j) y
  | [], _, _, j, y, h => by simp at h
  | a :: l, i, h, j, y, hy => by
    unfold firstA at h
    split at h
    · rename_i h1; exact absurd h h1
    · rename_i h1
      cases j with
      | zero =>
        rw [List.getElem?_cons_zero] at hy
        cases hy
        have := (actOk_iff c i a).1 (Classical.not_not.1 h1)
        simpa using this
      | succ j =>
        have := firstA_ok h j y (by simpa using hy)
        rw [show i + ((j + 1 : Nat) : Int) = i + 1 + j by omega]
        exact this
theorem firstA_drop {c : Crew} {acts : List Acn} {k : Nat} {x : Acn} (h : acts.drop k = x :: acts.drop (k + 1)) (h0 : actE c k x = 0) : firstA c (acts.drop k) k = firstA c (acts.drop (k + 1)) ((k : Nat) + 1 : Nat) := by
  rw [h, firstA, if_neg (not_not_intro h0)]; rfl
theorem firstA_hit {c : Crew} {acts : List Acn} {k : Nat} {x : Acn} (h : acts.drop k = x :: acts.drop (k + 1)) (h0 : actE c k x ≠ 0) : firstA c (acts.drop k) k = actE c k x := by
  rw [h, firstA, if_pos h0]
theorem setHold {c : Crew} {acts : List Acn} {i : Nat} {st : Rm} {j : Nat} {v : Int} (h : RmOk c acts i st) (hv : -1 ≤ v ∧ v < c.ops.length) : RmOk c acts i { st with hold := st.hold.set j v } :=
  ⟨h.now, by rw [List.length_set]; exact h.len, fun y hy => by
    rcases List.mem_or_eq_of_mem_set hy with hy | rfl
    · exact h.hold y hy
    · exact hv, h.opn, h.nord, h.ords⟩
theorem RmOk.up {c : Crew} {acts : List Acn} {i : Nat} {st : Rm} (h : RmOk c acts i st) : RmOk c acts (i + 1) st :=
  ⟨h.now, h.len, h.hold, fun j hj => by have := h.opn j hj; omega, by have := h.nord; omega, fun o ho => by have := h.ords o ho; omega⟩
theorem RmOk.tk {c : Crew} {acts : List Acn} {i : Nat} {st : Rm} {m : Int} (h : RmOk c acts i st) (hm : 0 ≤ m ∧ m ≤ 100000) : RmOk c acts i { st with now := m } := ⟨hm, h.len, h.hold, h.opn, h.nord, h.ords⟩
theorem rmOk_done {c : Crew} {acts : List Acn} {i : Nat} {x : Acn} {st : Rm} (h : RmOk c acts i st) (hx : ActOk c i x) (hi : acts[i]? = some x) (hall : ∀ (j : Nat) y, acts[j]? = some y → ActOk c j y) : RmOk c acts (i + 1) (doneF c acts i x st).2 := by
  have hw := hx.who
  have hto := hx.to
  unfold doneF
  split
  · unfold takeF
    split
    · exact h.up
    · exact (setHold h ⟨by omega, by omega⟩).up
  split
  · unfold giveF
    split
    · exact h.up
    · exact (setHold h ⟨by omega, by omega⟩).up
  split
  · unfold giveF
    split
    · exact h.up
    · exact (setHold h ⟨by omega, by omega⟩).up
  split
  · rename_i h4
    have hwh := hx.what
    rw [show manyA c i x = c.kinds.length from if_pos h4] at hwh
    unfold orderF
    simp only []
    split
    · exact h.up
    split
    · have hu := h.up
      refine ⟨hu.now, hu.len, hu.hold, fun j hj => ?_, hu.nord, hu.ords⟩
      rcases List.mem_append.1 hj with hj | hj
      · exact hu.opn j hj
      · obtain rfl := List.mem_singleton.1 hj
        refine ⟨by omega, by omega, ?_⟩
        rw [actAt_nat hi]; exact h4
    split
    · exact h.up
    · have hu := h.up
      have hn := h.nord
      refine ⟨hu.now, hu.len, hu.hold, hu.opn, by simp only [List.length_append, List.length_singleton]; omega, fun o ho => ?_⟩
      rcases List.mem_append.1 ho with ho | ho
      · exact hu.ords o ho
      · obtain rfl := List.mem_singleton.1 ho
        exact ⟨⟨by show (0 : Int) ≤ i; omega, by show (i : Int) < _; omega⟩, ⟨Int.le_refl _, by show (-1 : Int) < _; omega⟩, hwh, hx.subj, hx.tm⟩
  split
  · unfold confirmF
    split
    · exact h.up
    · rename_i h0
      have hm : x.what ∈ st.opn := by
        have h0 := Classical.not_not.1 h0
        unfold confE at h0
        simp only [] at h0
        split at h0
        · cases h0
        · rename_i hh; exact Classical.not_not.1 hh
      have ho := h.opn _ hm
      obtain ⟨k, hk⟩ := Int.eq_ofNat_of_zero_le ho.1
      have hil := (List.getElem?_eq_some_iff.1 hi).1
      have hkl : k < acts.length := by omega
      have hz := actAt_hit hk (List.getElem?_eq_getElem hkl)
      have hZ := hall k _ (List.getElem?_eq_getElem hkl)
      rw [← hz] at hZ
      have hwh := hZ.what
      rw [show manyA c k (actAt acts x.what) = c.kinds.length from if_pos ho.2.2] at hwh
      have hu := h.up
      have hn := h.nord
      refine ⟨hu.now, hu.len, hu.hold, fun j hj => hu.opn j (List.mem_of_mem_erase hj), by simp only [List.length_append, List.length_singleton]; omega, fun o ho' => ?_⟩
      rcases List.mem_append.1 ho' with ho' | ho'
      · exact hu.ords o ho'
      · obtain rfl := List.mem_singleton.1 ho'
        exact ⟨⟨ho.1, by show x.what < _; omega⟩, ⟨by show (-1 : Int) ≤ (i : Int); omega, by show (i : Int) < _; omega⟩, hwh, hZ.subj, hx.tm⟩
  · unfold cancelF
    split
    · exact h.up
    · have hu := h.up
      exact ⟨hu.now, hu.len, hu.hold, fun j hj => hu.opn j (List.mem_of_mem_erase hj), hu.nord, hu.ords⟩
theorem rmOk_do {c : Crew} {acts : List Acn} {i : Nat} {x : Acn} {st : Rm} (h : RmOk c acts i st) (hx : ActOk c i x) (hi : acts[i]? = some x) (hall : ∀ (j : Nat) y, acts[j]? = some y → ActOk c j y) : RmOk c acts (i + 1) (doF c acts i x st).2 := by
  unfold doF
  split
  · exact h.up
  split
  · exact (h.tk hx.tm).up
  · exact rmOk_done (h.tk hx.tm) hx hi hall
theorem rmOk_0 (c : Crew) (acts : List Acn) (hc : CrewOk c) : RmOk c acts 0 (rm0 c) :=
  ⟨⟨Int.le_refl _, by show (0 : Int) ≤ 100000; decide⟩, by simp [rm0], fun y hy => by have := (List.mem_replicate.1 hy).2; have := hc.nops; omega, fun j hj => (List.not_mem_nil hj).elim, Nat.le_refl _, fun o ho => (List.not_mem_nil ho).elim⟩
theorem plN_succ {c : Crew} {acts : List Acn} {k : Nat} {x : Acn} (h : acts[k]? = some x) : plN c acts (k + 1) = ((plN c acts k).1 ++ [(doF c acts k x (plN c acts k).2).1], (doF c acts k x (plN c acts k).2).2) := by
  rw [plN, actAt_nat h]
def playL (c : Crew) (acts : List Acn) : List Int := if playE c acts ≠ 0 then [] else (plN c acts acts.length).1
def playO (c : Crew) (acts : List Acn) : List Ord := if playE c acts ≠ 0 then [] else (plN c acts acts.length).2.ords
def playK (c : Crew) (acts : List Acn) : List Int := if playE c acts ≠ 0 then [] else (plN c acts acts.length).2.hold
end Bx
namespace Bx
open Go Go.RowKit
theorem holdRow0 (c : Crew) (v : Value) : rowI v 3 1 c.keys.length (List.replicate c.keys.length (.int .i64 (-1))) = rowI v 3 1 (rm0 c).hold.length ((rm0 c).hold.flatMap encI) := by
  rw [flatI]; simp [rm0]
end Bx

/- part Ck19 -/
namespace Go.Proofs.YtghgnofilbnbaaaGreat
open Go Bx
set_option maxHeartbeats 4000000 in
/-- barrage/crew.play -/
theorem c_play {c : Crew} {cs : List Value} {acts : List Acn} {av : Value} {w0 : World} (h : RCrew w0 cs c) (ha : Sl w0 6 RAct av acts) : CE Tryz.prog 17 #[.agg cs.toArray, av] w0 (fun u w' => (playE c acts ≠ 0 ∧ u = .tuple #[.pointer none, .slice none 0 0, .int .i64 (playE c acts)] ∧ Ext w0 w') ∨ (playE c acts = 0 ∧ ∃ p b a an aa cap cn ca kv hv rv lv, u = .tuple #[.pointer (some ⟨p, 0, none⟩), lv, .int .i64 0] ∧ St w0 w' [blk p [.slice a c.ops.length cap, kv, .slice an c.kinds.length cn, .slice aa acts.length ca, .int .i64 (plN c acts acts.length).2.now, hv, .map (some b), rv] 64, rowI hv 3 1 ((plN c acts acts.length).2.hold).length (((plN c acts acts.length).2.hold).flatMap Bx.encI), mapI b (Value.int .i64) (opM (plN c acts acts.length).2.opn), rowI rv 66 5 ((plN c acts acts.length).2.ords).length (((plN c acts acts.length).2.ords).flatMap ordC), rowI lv 29 1 acts.length ((plN c acts acts.length).1.flatMap Bx.encI)])) := by
  obtain ⟨ov, kv, nv, rfl, hso, hsk, hsn, hrm⟩ := id h
  obtain ⟨a, cap, rfl, hcap, hmx, hel⟩ := id hso
  obtain ⟨ak, ck, rfl, hkcap, hkmx, -⟩ := id hsk
  obtain ⟨an, cn, rfl, hncap, hnmx, heln⟩ := id hsn
  obtain ⟨aa, ca, rfl, hacap, hamx, hela⟩ := id ha
  refine enter Tryz.func17 rfl Tryz.ntmps17 rfl ?_
  have hS := St.start w0
  refine seq ?_
  refine region ?_
  refine sbox hS rfl rfl ?_; clear hS; intro b2 w hS
  refine sv (yAsg rfl) ?_
  refine sv (yAsg rfl) ?_
  refine sv (yAsg rfl) ?_
  refine nil ?_
  show Code.wp _ _ _ _ _
  refine seq ?_
  refine seq ?_
  refine region ?_
  refine sv (yLdBA rfl Tryz.isAgg26 Tryz.sizeOf26 (hS.at _) rfl rfl) ?_
  refine scall Tryz.call34 (.cons rfl .nil) (c_CheckC (h.ext hS.ext)) ?_
  rintro _ w ⟨rfl, hE⟩; replace hS := hS.step hE; clear hE
  refine sv (yMove rfl) ?_
  refine sv (yExt rfl rfl) ?_
  refine sv (yExt rfl rfl) ?_
  refine sv (yExt rfl rfl) ?_
  refine sv (yAsg rfl) ?_
  refine nil ?_
  show Code.wp _ _ _ _ _
  refine seq ?_
  refine region ?_
  refine sv (yMove rfl) ?_
  refine sv (yNeq rfl rfl) ?_
  refine nil ?_
  show Code.wp _ _ _ _ _
  refine cond rfl (fun c18 => ?_) (fun c18 => ?_)
  ·
    simp only [Bool.and_eq_true, Bool.or_eq_true, Bool.and_eq_false_iff, Bool.or_eq_false_iff, decide_eq_true_eq, decide_eq_false_iff_not, Bool.not_eq_true, Bool.not_eq_false, Bool.not_not, Bool.not_eq_eq_eq_not, Bool.not_true, Bool.not_false, Bool.false_eq_true, Bool.true_eq_false, ne_eq, Decidable.not_not, not_false_eq_true, not_true_eq_false] at c18
    refine seq ?_
    refine region ?_
    refine sv (yMove rfl) ?_
    refine sv (yAsg rfl) ?_
    refine sv (yAsg rfl) ?_
    refine sv (yAsg rfl) ?_
    refine nil ?_
    show Code.wp _ _ _ _ _
    refine wp_ret (thenR ?_)
    refine retQ (res3 rfl rfl rfl rfl) ?_
    have hE : playE c acts = (checkC c).2.2 := by unfold playE; rw [if_pos c18]
    exact .inl ⟨by rw [hE]; first | exact c18 | exact c35 | decide, by (rw [hE]; try rfl), hS.ext⟩
  ·
    simp only [Bool.and_eq_true, Bool.or_eq_true, Bool.and_eq_false_iff, Bool.or_eq_false_iff, decide_eq_true_eq, decide_eq_false_iff_not, Bool.not_eq_true, Bool.not_eq_false, Bool.not_not, Bool.not_eq_eq_eq_not, Bool.not_true, Bool.not_false, Bool.false_eq_true, Bool.true_eq_false, ne_eq, Decidable.not_not, not_false_eq_true, not_true_eq_false] at c18
    have hc := crewOk_of c18
    refine skip ?_
    show Code.wp _ _ _ _ _
    refine seq ?_
    refine seq ?_
    refine region ?_
    refine sv (yMove rfl) ?_
    refine sv (yLen rfl Tryz.underlying27) ?_
    refine sv (yGtr rfl rfl) ?_
    refine nil ?_
    show Code.wp _ _ _ _ _
    refine cond rfl (fun c22 => ?_) (fun c22 => ?_)
    ·
      simp only [Bool.and_eq_true, Bool.or_eq_true, Bool.and_eq_false_iff, Bool.or_eq_false_iff, decide_eq_true_eq, decide_eq_false_iff_not, Bool.not_eq_true, Bool.not_eq_false, Bool.not_not, Bool.not_eq_eq_eq_not, Bool.not_true, Bool.not_false, Bool.false_eq_true, Bool.true_eq_false, ne_eq, Decidable.not_not, not_false_eq_true, not_true_eq_false] at c22
      refine seq ?_
      refine region ?_
      refine sv (yAsg rfl) ?_
      refine sv (yAsg rfl) ?_
      refine sv (yAsg rfl) ?_
      refine nil ?_
      show Code.wp _ _ _ _ _
      refine wp_ret (thenR ?_)
      refine retQ (res3 rfl rfl rfl rfl) ?_
      have hE : playE c acts = 3 := by unfold playE; rw [if_neg (not_not_intro c18), if_pos c22]
      exact .inl ⟨by rw [hE]; first | exact c18 | exact c35 | decide, by (rw [hE]; try rfl), hS.ext⟩
    ·
      simp only [Bool.and_eq_true, Bool.or_eq_true, Bool.and_eq_false_iff, Bool.or_eq_false_iff, decide_eq_true_eq, decide_eq_false_iff_not, Bool.not_eq_true, Bool.not_eq_false, Bool.not_not, Bool.not_eq_eq_eq_not, Bool.not_true, Bool.not_false, Bool.false_eq_true, Bool.true_eq_false, ne_eq, Decidable.not_not, not_false_eq_true, not_true_eq_false] at c22
      refine skip ?_
      show Code.wp _ _ _ _ _
      refine seq ?_
      refine seq ?_
      refine region ?_
      refine sv (yMove rfl) ?_
      refine sv (yLen rfl Tryz.underlying27) ?_
      refine sv (yMove rfl) ?_
      refine nil ?_
      show Code.wp _ _ _ _ _
      refine block ?_
      refine loop (fun f w zz => ∃ (k : Nat), f 1 = .slice aa acts.length ca ∧ f 2 = .pointer (some ⟨b2, 0, none⟩) ∧ f 4 = .pointer none ∧ f 5 = .slice none 0 0 ∧ f 23 = .slice aa acts.length ca ∧ f 24 = .int .i64 (acts.length : Int) ∧ f 25 = .int .i64 (k : Int) ∧ StX [] w0 w [blk b2 [.slice a c.ops.length cap, .slice ak c.keys.length ck, .slice an c.kinds.length cn] 26] ∧ (k ≤ acts.length) ∧ (firstA c acts 0 = firstA c (acts.drop k) k) ∧ zz = acts.length - k) _ ⟨_, rfl, 0, rfl, rfl, rfl, rfl, rfl, rfl, rfl, hS, (Nat.zero_le _), (rfl), rfl⟩ ?_
      clear hS
      rintro f w _ ⟨k, h1, h2, h4, h5, h23, h24, h25, hS, hk, hF, rfl⟩
      refine seq ?_
      refine region ?_
      refine sv (yLss h25 h24) ?_
      refine nil ?_
      show Code.wp _ _ _ _ _
      refine seq ?_
      refine cond rfl (fun c26 => ?_) (fun c26 => ?_)
      ·
        simp only [Bool.and_eq_true, Bool.or_eq_true, Bool.and_eq_false_iff, Bool.or_eq_false_iff, decide_eq_true_eq, decide_eq_false_iff_not, Bool.not_eq_true, Bool.not_eq_false, Bool.not_not, Bool.not_eq_eq_eq_not, Bool.not_true, Bool.not_false, Bool.false_eq_true, Bool.true_eq_false, ne_eq, Decidable.not_not, not_false_eq_true, not_true_eq_false] at c26
        refine skip ?_
        show Code.wp _ _ _ _ _
        refine seq ?_
        refine block ?_
        refine seq ?_
        refine region ?_
        refine sv (yMove h25) ?_
        obtain ⟨x, hxq, hdq⟩ := drop_of (l := acts) (k := k) (by omega)
        obtain ⟨bq, oq, csq, haq, hlenq, hcsq, hRq⟩ := hela (k) (by omega)
        obtain rfl : x = acts[k] := (List.getElem?_eq_some_iff.1 hxq).2.symm
        generalize acts[k] = x at hxq hdq hRq
        obtain ⟨rfl, hxi⟩ := hRq
        refine sv (yIxa h23 haq h25 Tryz.runUnderlying27 Tryz.sizeOf86 (by omega) (by omega)) ?_
        refine sv (yLdA rfl Tryz.isAgg86 Tryz.sizeOf86 (hcsq.ext hS.ext) rfl) ?_
        refine salloc hS Tryz.zeroValue86 rfl ?_; clear hS; intro b8 w hS
        refine sv (yAsg rfl) ?_
        refine sst hS rfl rfl Tryz.sizeOf86 rfl rfl rfl rfl ?_; clear hS; intro w hS
        refine nil ?_
        show Code.wp _ _ _ _ _
        refine seq ?_
        refine region ?_
        refine sv (yLdBA h2 Tryz.isAgg26 Tryz.sizeOf26 (hS.at _) rfl rfl) ?_
        refine sv (yMove rfl) ?_
        refine sv (yLdBA rfl Tryz.isAgg86 Tryz.sizeOf86 (hS.at _) rfl rfl) ?_
        refine scall Tryz.call35 (.cons rfl (.cons rfl (.cons rfl .nil))) (c_act (h.ext hS.ext) (by omega)) ?_
        rintro _ w ⟨rfl, hE⟩; replace hS := hS.step hE; clear hE
        refine sv (yAsg rfl) ?_
        refine nil ?_
        show Code.wp _ _ _ _ _
        refine seq ?_
        refine region ?_
        refine sv (yMove rfl) ?_
        refine sv (yNeq rfl rfl) ?_
        refine nil ?_
        show Code.wp _ _ _ _ _
        refine cond rfl (fun c35 => ?_) (fun c35 => ?_)
        ·
          simp only [Bool.and_eq_true, Bool.or_eq_true, Bool.and_eq_false_iff, Bool.or_eq_false_iff, decide_eq_true_eq, decide_eq_false_iff_not, Bool.not_eq_true, Bool.not_eq_false, Bool.not_not, Bool.not_eq_eq_eq_not, Bool.not_true, Bool.not_false, Bool.false_eq_true, Bool.true_eq_false, ne_eq, Decidable.not_not, not_false_eq_true, not_true_eq_false] at c35
          refine seq ?_
          refine region ?_
          refine sv (yMove rfl) ?_
          refine sv (yAsg rfl) ?_
          refine sv (yAsg rfl) ?_
          refine sv (yAsg rfl) ?_
          refine nil ?_
          show Code.wp _ _ _ _ _
          refine wp_ret (blockR (thenR (thenR (blockR (thenR ?_)))))
          refine retQ (res3 rfl rfl rfl rfl) ?_
          have hE : playE c acts = actE c k x := by unfold playE; rw [if_neg (not_not_intro c18), if_neg c22, hF, firstA_hit hdq c35]
          exact .inl ⟨by rw [hE]; exact c35, by (rw [hE]; try rfl), hS.ext⟩
        ·
          simp only [Bool.and_eq_true, Bool.or_eq_true, Bool.and_eq_false_iff, Bool.or_eq_false_iff, decide_eq_true_eq, decide_eq_false_iff_not, Bool.not_eq_true, Bool.not_eq_false, Bool.not_not, Bool.not_eq_eq_eq_not, Bool.not_true, Bool.not_false, Bool.false_eq_true, Bool.true_eq_false, ne_eq, Decidable.not_not, not_false_eq_true, not_true_eq_false] at c35
          refine skip ?_
          show Code.wp _ _ _ _ _
          refine region ?_
          refine sv (yAdd h25 rfl ⟨by omega, by omega⟩) ?_
          refine sv (yMove rfl) ?_
          refine nil ?_
          exact ⟨_, _, rfl, ⟨k + 1, h1, h2, h4, h5, h23, h24, rfl, (hS.sub (.cons _ (List.Sublist.refl _))), (by omega), (by rw [hF, firstA_drop hdq c35]), rfl⟩, by omega⟩
      ·
        simp only [Bool.and_eq_true, Bool.or_eq_true, Bool.and_eq_false_iff, Bool.or_eq_false_iff, decide_eq_true_eq, decide_eq_false_iff_not, Bool.not_eq_true, Bool.not_eq_false, Bool.not_not, Bool.not_eq_eq_eq_not, Bool.not_true, Bool.not_false, Bool.false_eq_true, Bool.true_eq_false, ne_eq, Decidable.not_not, not_false_eq_true, not_true_eq_false] at c26
        refine exit ?_
        show Code.wp _ _ _ _ _
        
        refine seqJ (n := 65) (fun f w => ∃ (p b : Nat) (hv : Value), f 1 = .slice aa acts.length ca ∧ f 4 = .pointer (some ⟨p, 0, none⟩) ∧ f 5 = .slice none 0 0 ∧ StX [] w0 w [blk p [.slice a c.ops.length cap, .slice ak c.keys.length ck, .slice an c.kinds.length cn, .slice aa acts.length ca, .int .i64 (rm0 c).now, hv, .map (some b), (.slice none 0 0)] 64, rowI hv 3 1 ((rm0 c).hold).length (((rm0 c).hold).flatMap Bx.encI), mapI b (Value.int .i64) (opM (rm0 c).opn), rowI (.slice none 0 0) 66 5 ((rm0 c).ords).length (((rm0 c).ords).flatMap ordC), rowI (.slice none 0 0) 29 1 0 [], blk b2 [.slice a c.ops.length cap, .slice ak c.keys.length ck, .slice an c.kinds.length cn] 26] ∧ (playE c acts = 0) ∧ (∀ (j : Nat) y, acts[j]? = some y → ActOk c j y) ∧ True) ?_ ?_
        ·
          refine region_mix (fun w => w.heap[b2]? = some (.cells ([.slice a c.ops.length cap, .slice ak c.keys.length ck, .slice an c.kinds.length cn] : List Value).toArray 26 (0, 0))) 11 mixed hS ?_
          clear hS; intro w hS
          obtain rfl : k = acts.length := by omega
          have hE0 : firstA c acts 0 = 0 := by rw [hF, List.drop_length]; rfl
          have hE : playE c acts = 0 := by unfold playE; rw [if_neg (not_not_intro c18), if_neg c22, hE0]
          have hall : ∀ (j : Nat) y, acts[j]? = some y → ActOk c j y := fun j y hy => by have := firstA_ok hE0 j y hy; rw [Int.zero_add] at this; exact this
          clear hF
          refine f_step 0 (by kernel_rfl) rfl (fun c a a' w h => by obtain ⟨_, v, hv, _⟩ := h; cases hv) (hS.at b2) (fun w hS => (yLdBA h2 Tryz.isAgg26 Tryz.sizeOf26 hS rfl rfl)) ?_
          refine f_step 1 (by kernel_rfl) rfl (fun c a a' w h => by obtain ⟨_, v, hv, _⟩ := h; cases hv) (hS.at b2) (fun w hS => (yMove h1)) ?_
          refine f_step 3 (by kernel_rfl) rfl (fun c a a' w h => by obtain ⟨_, v, hv, _⟩ := h; cases hv) (hS.at b2) (fun w hS => (fa26_1 h2)) ?_
          refine f_step 4 (by kernel_rfl) rfl (fun c a a' w h => by obtain ⟨_, v, hv, _⟩ := h; cases hv) (hS.at b2) (fun w hS => (yLdB rfl Tryz.isAgg23 hS rfl)) ?_
          refine f_step 5 (by kernel_rfl) rfl (fun c a a' w h => by obtain ⟨_, v, hv, _⟩ := h; cases hv) (hS.at b2) (fun w hS => (yLen rfl Tryz.underlying23)) ?_
          show wpA _ _ _ _ _ _ _ _ _ _
          refine a_step (i := 2) (is := [7]) (by kernel_rfl) ⟨?_, ?_, trivial⟩
          ·
            refine ⟨_, rfl, ?_⟩
            refine sbslice hS Tryz.underlying37 Tryz.sizeOf3 rfl Tryz.zeroValue3 rfl (.cons rfl rfl .nil) rfl ?_; clear hS; intro b40 w hS
            refine nil ?_
            refine ⟨fun _ => (hS.at b2), ?_⟩
            show wpA _ _ _ _ _ _ _ _ _ _
            show wpA _ _ _ _ _ _ _ _ _ _
            refine a_step (i := 6) (is := [7]) (by kernel_rfl) ⟨?_, ?_, trivial⟩
            ·
              refine ⟨_, rfl, ?_⟩
              refine scall Tryz.call36 (.cons rfl (.cons rfl .nil)) (c_Repeat hc.nkeys (hS.at b40)) ?_
              rintro hv w hM; rw [holdRow0 c] at hM; replace hS := hS.call1 hM; clear hM; obtain ⟨ah, chh, rfl⟩ := row_shape (hS.row hv)
              refine nil ?_
              refine ⟨fun _ => (hS.at b2), ?_⟩
              show wpA _ _ _ _ _ _ _ _ _ _
              show wpA _ _ _ _ _ _ _ _ _ _
              refine a_step (i := 7) (is := []) (by kernel_rfl) ⟨?_, trivial⟩
              refine ⟨_, rfl, ?_⟩
              refine smkmap (Value.int .i64) hS ?_; clear hS; intro b45 w hS
              refine nil ?_
              refine ⟨fun _ => (hS.at b2), ?_⟩
              show wpA _ _ _ _ _ _ _ _ _ _
              refine f_step 8 (by kernel_rfl) rfl (fun c a a' w h => by obtain ⟨_, v, hv, _⟩ := h; cases hv) (hS.at b2) (fun w hS => (yBuild Tryz.zeroValue64 rfl pl64 (.cons rfl rfl (.cons rfl rfl (.cons rfl rfl (.cons rfl rfl .nil)))) rfl)) ?_
              show wpA _ _ _ _ _ _ _ _ _ _
              refine a_step (i := 9) (is := []) (by kernel_rfl) ⟨?_, trivial⟩
              refine ⟨_, rfl, ?_⟩
              refine sbox hS rfl rfl ?_; clear hS; intro b47 w hS
              refine nil ?_
              refine ⟨fun _ => (hS.at b2), ?_⟩
              show wpA _ _ _ _ _ _ _ _ _ _
              refine f_step 10 (by kernel_rfl) rfl (fun c a a' w h => by obtain ⟨_, v, hv, _⟩ := h; cases hv) (hS.at b2) (fun w hS => (yAsg rfl)) ?_
              refine a_end (by kernel_rfl) ?_
              exact ⟨_, rfl, b47, b45, _, h1, rfl, h5, (mkRoom (by first | exact hS.sub (.cons_cons _ (.cons_cons _ (.cons_cons _ (.cons _ (List.Sublist.refl _))))) | exact hS.sub (.cons_cons _ (.cons_cons _ (.cons _ (List.Sublist.refl _)))) | exact (hS.sub (.cons_cons _ (.cons_cons _ (.cons_cons _ (.cons _ (List.Sublist.refl _)))))).perm (.cons _ (.swap _ _ _)))), (hE), (hall), trivial⟩
            ·
              refine ⟨_, rfl, ?_⟩
              refine smkmap (Value.int .i64) hS ?_; clear hS; intro b45 w hS
              refine nil ?_
              refine ⟨fun _ => (hS.at b2), ?_⟩
              show wpA _ _ _ _ _ _ _ _ _ _
              show wpA _ _ _ _ _ _ _ _ _ _
              refine a_step (i := 6) (is := []) (by kernel_rfl) ⟨?_, trivial⟩
              refine ⟨_, rfl, ?_⟩
              refine scall Tryz.call36 (.cons rfl (.cons rfl .nil)) (c_Repeat hc.nkeys (hS.at b40)) ?_
              rintro hv w hM; rw [holdRow0 c] at hM; replace hS := hS.call1 hM; clear hM; obtain ⟨ah, chh, rfl⟩ := row_shape (hS.row hv)
              refine nil ?_
              refine ⟨fun _ => (hS.at b2), ?_⟩
              show wpA _ _ _ _ _ _ _ _ _ _
              refine f_step 8 (by kernel_rfl) rfl (fun c a a' w h => by obtain ⟨_, v, hv, _⟩ := h; cases hv) (hS.at b2) (fun w hS => (yBuild Tryz.zeroValue64 rfl pl64 (.cons rfl rfl (.cons rfl rfl (.cons rfl rfl (.cons rfl rfl .nil)))) rfl)) ?_
              show wpA _ _ _ _ _ _ _ _ _ _
              refine a_step (i := 9) (is := []) (by kernel_rfl) ⟨?_, trivial⟩
              refine ⟨_, rfl, ?_⟩
              refine sbox hS rfl rfl ?_; clear hS; intro b47 w hS
              refine nil ?_
              refine ⟨fun _ => (hS.at b2), ?_⟩
              show wpA _ _ _ _ _ _ _ _ _ _
              refine f_step 10 (by kernel_rfl) rfl (fun c a a' w h => by obtain ⟨_, v, hv, _⟩ := h; cases hv) (hS.at b2) (fun w hS => (yAsg rfl)) ?_
              refine a_end (by kernel_rfl) ?_
              exact ⟨_, rfl, b47, b45, _, h1, rfl, h5, (mkRoom (by first | exact hS.sub (.cons_cons _ (.cons_cons _ (.cons_cons _ (.cons _ (List.Sublist.refl _))))) | exact hS.sub (.cons_cons _ (.cons_cons _ (.cons _ (List.Sublist.refl _)))) | exact (hS.sub (.cons_cons _ (.cons_cons _ (.cons_cons _ (.cons _ (List.Sublist.refl _)))))).perm (.cons _ (.swap _ _ _)))), (hE), (hall), trivial⟩
          ·
            refine ⟨_, rfl, ?_⟩
            refine smkmap (Value.int .i64) hS ?_; clear hS; intro b45 w hS
            refine nil ?_
            refine ⟨fun _ => (hS.at b2), ?_⟩
            show wpA _ _ _ _ _ _ _ _ _ _
            show wpA _ _ _ _ _ _ _ _ _ _
            refine a_step (i := 2) (is := []) (by kernel_rfl) ⟨?_, trivial⟩
            refine ⟨_, rfl, ?_⟩
            refine sbslice hS Tryz.underlying37 Tryz.sizeOf3 rfl Tryz.zeroValue3 rfl (.cons rfl rfl .nil) rfl ?_; clear hS; intro b40 w hS
            refine nil ?_
            refine ⟨fun _ => (hS.at b2), ?_⟩
            show wpA _ _ _ _ _ _ _ _ _ _
            show wpA _ _ _ _ _ _ _ _ _ _
            refine a_step (i := 6) (is := []) (by kernel_rfl) ⟨?_, trivial⟩
            refine ⟨_, rfl, ?_⟩
            refine scall Tryz.call36 (.cons rfl (.cons rfl .nil)) (c_Repeat hc.nkeys (hS.at b40)) ?_
            rintro hv w hM; rw [holdRow0 c] at hM; replace hS := hS.call1 hM; clear hM; obtain ⟨ah, chh, rfl⟩ := row_shape (hS.row hv)
            refine nil ?_
            refine ⟨fun _ => (hS.at b2), ?_⟩
            show wpA _ _ _ _ _ _ _ _ _ _
            refine f_step 8 (by kernel_rfl) rfl (fun c a a' w h => by obtain ⟨_, v, hv, _⟩ := h; cases hv) (hS.at b2) (fun w hS => (yBuild Tryz.zeroValue64 rfl pl64 (.cons rfl rfl (.cons rfl rfl (.cons rfl rfl (.cons rfl rfl .nil)))) rfl)) ?_
            show wpA _ _ _ _ _ _ _ _ _ _
            refine a_step (i := 9) (is := []) (by kernel_rfl) ⟨?_, trivial⟩
            refine ⟨_, rfl, ?_⟩
            refine sbox hS rfl rfl ?_; clear hS; intro b47 w hS
            refine nil ?_
            refine ⟨fun _ => (hS.at b2), ?_⟩
            show wpA _ _ _ _ _ _ _ _ _ _
            refine f_step 10 (by kernel_rfl) rfl (fun c a a' w h => by obtain ⟨_, v, hv, _⟩ := h; cases hv) (hS.at b2) (fun w hS => (yAsg rfl)) ?_
            refine a_end (by kernel_rfl) ?_
            exact ⟨_, rfl, b47, b45, _, h1, rfl, h5, (mkRoom (by first | exact hS.sub (.cons_cons _ (.cons_cons _ (.cons_cons _ (.cons _ (List.Sublist.refl _))))) | exact hS.sub (.cons_cons _ (.cons_cons _ (.cons _ (List.Sublist.refl _)))) | exact (hS.sub (.cons_cons _ (.cons_cons _ (.cons_cons _ (.cons _ (List.Sublist.refl _)))))).perm (.cons _ (.swap _ _ _)))), (hE), (hall), trivial⟩
        ·
          clear hS; rintro f w ⟨p, b, hv, h1, h4, h5, hS, hE, hall, -⟩
          refine seq ?_
          refine seq ?_
          refine region ?_
          refine sv (yMove h1) ?_
          refine sv (yLen rfl Tryz.underlying27) ?_
          refine sv (yMove rfl) ?_
          refine nil ?_
          show Code.wp _ _ _ _ _
          refine block ?_
          refine loop (fun f w zz => ∃ (k : Nat) (rv lv : Value), f 4 = .pointer (some ⟨p, 0, none⟩) ∧ f 5 = lv ∧ f 48 = .slice aa acts.length ca ∧ f 49 = .int .i64 (acts.length : Int) ∧ f 50 = .int .i64 (k : Int) ∧ StX [] w0 w [blk p [.slice a c.ops.length cap, .slice ak c.keys.length ck, .slice an c.kinds.length cn, .slice aa acts.length ca, .int .i64 (plN c acts k).2.now, hv, .map (some b), rv] 64, rowI hv 3 1 ((plN c acts k).2.hold).length (((plN c acts k).2.hold).flatMap Bx.encI), mapI b (Value.int .i64) (opM (plN c acts k).2.opn), rowI rv 66 5 ((plN c acts k).2.ords).length (((plN c acts k).2.ords).flatMap ordC), rowI lv 29 1 k ((plN c acts k).1.flatMap Bx.encI), blk b2 [.slice a c.ops.length cap, .slice ak c.keys.length ck, .slice an c.kinds.length cn] 26] ∧ (k ≤ acts.length) ∧ (RmOk c acts k (plN c acts k).2) ∧ zz = acts.length - k) _ ⟨_, rfl, 0, _, _, h4, h5, rfl, rfl, rfl, hS, (Nat.zero_le _), (rmOk_0 c acts hc), rfl⟩ ?_
          clear hS
          rintro f w _ ⟨k, rv, lv, h4, h5, h48, h49, h50, hS, hk, hok, rfl⟩
          refine seq ?_
          refine region ?_
          refine sv (yLss h50 h49) ?_
          refine nil ?_
          show Code.wp _ _ _ _ _
          refine seq ?_
          refine cond rfl (fun c51 => ?_) (fun c51 => ?_)
          ·
            simp only [Bool.and_eq_true, Bool.or_eq_true, Bool.and_eq_false_iff, Bool.or_eq_false_iff, decide_eq_true_eq, decide_eq_false_iff_not, Bool.not_eq_true, Bool.not_eq_false, Bool.not_not, Bool.not_eq_eq_eq_not, Bool.not_true, Bool.not_false, Bool.false_eq_true, Bool.true_eq_false, ne_eq, Decidable.not_not, not_false_eq_true, not_true_eq_false] at c51
            refine skip ?_
            show Code.wp _ _ _ _ _
            refine seq ?_
            refine block ?_
            refine seq ?_
            refine region ?_
            refine sv (yMove h50) ?_
            obtain ⟨x, hxq, hdq⟩ := drop_of (l := acts) (k := k) (by omega)
            obtain ⟨bq, oq, csq, haq, hlenq, hcsq, hRq⟩ := hela (k) (by omega)
            obtain rfl : x = acts[k] := (List.getElem?_eq_some_iff.1 hxq).2.symm
            generalize acts[k] = x at hxq hdq hRq
            obtain ⟨rfl, hxi⟩ := hRq
            refine sv (yIxa h48 haq h50 Tryz.runUnderlying27 Tryz.sizeOf86 (by omega) (by omega)) ?_
            refine sv (yLdA rfl Tryz.isAgg86 Tryz.sizeOf86 (hcsq.ext hS.ext) rfl) ?_
            refine salloc hS Tryz.zeroValue86 rfl ?_; clear hS; intro b10 w hS
            refine sv (yAsg rfl) ?_
            refine sst hS rfl rfl Tryz.sizeOf86 rfl rfl rfl rfl ?_; clear hS; intro w hS
            refine nil ?_
            show Code.wp _ _ _ _ _
            refine region ?_
            refine sv (yMove h5) ?_
            refine sv (yMove h4) ?_
            refine sv (yMove rfl) ?_
            refine sv (yLdBA rfl Tryz.isAgg86 Tryz.sizeOf86 (hS.at _) rfl rfl) ?_
            refine scall Tryz.call37 (.cons rfl (.cons rfl (.cons rfl .nil))) (DoneD.calls (c_do (st := (plN c acts k).2) (rv := rv) (hv := hv) (i := k) (x := x) h hc ha hok (hall k x hxq) hall (by omega) (by omega) (front1 (R := [blk p [.slice a c.ops.length cap, .slice ak c.keys.length ck, .slice an c.kinds.length cn, .slice aa acts.length ca, .int .i64 (plN c acts k).2.now, hv, .map (some b), rv] 64, rowI hv 3 1 ((plN c acts k).2.hold).length (((plN c acts k).2.hold).flatMap Bx.encI), mapI b (Value.int .i64) (opM (plN c acts k).2.opn), rowI rv 66 5 ((plN c acts k).2.ords).length (((plN c acts k).2.ords).flatMap ordC)]) hS))) ?_
            rintro _ w ⟨rfl, rv', hS2⟩; clear hS; have hS : StX [] w0 w (blk p [.slice a c.ops.length cap, .slice ak c.keys.length ck, .slice an c.kinds.length cn, .slice aa acts.length ca, .int .i64 (doF c acts k x (plN c acts k).2).2.now, hv, .map (some b), rv'] 64 :: rowI hv 3 1 ((doF c acts k x (plN c acts k).2).2.hold).length (((doF c acts k x (plN c acts k).2).2.hold).flatMap Bx.encI) :: mapI b (Value.int .i64) (opM (doF c acts k x (plN c acts k).2).2.opn) :: rowI rv' 66 5 ((doF c acts k x (plN c acts k).2).2.ords).length (((doF c acts k x (plN c acts k).2).2.ords).flatMap ordC) :: blk b10 (actC x) 86 :: rowI lv 29 1 k ((plN c acts k).1.flatMap Bx.encI) :: [blk b2 [.slice a c.ops.length cap, .slice ak c.keys.length ck, .slice an c.kinds.length cn] 26]) := hS2; clear hS2
            refine sbslice hS Tryz.underlying28 Tryz.sizeOf29 rfl Tryz.zeroValue29 rfl (.cons rfl rfl .nil) rfl ?_; clear hS; intro b60 w hS
            refine sapp (bytes := 8) (size := 1) (v := lv) (m := 1) hS rfl rfl Tryz.underlying28 ti29 rfl rfl rfl rfl (by decide) (blk_cells (hS.at _)) rfl rfl (by omega) (by omega) ?_; clear hS; intro v61 w hS
            refine sv (yAsg rfl) ?_
            refine nil ?_
            show Code.wp _ _ _ _ _
            refine region ?_
            refine sv (yAdd h50 rfl ⟨by omega, by omega⟩) ?_
            refine sv (yMove rfl) ?_
            refine nil ?_
            exact ⟨_, _, rfl, ⟨k + 1, rv', v61, h4, rfl, h48, h49, rfl, (by rw [plN_succ hxq]; dsimp only; rw [List.flatMap_append]; exact hS.sub (.cons _ (.cons_cons _ (.cons_cons _ (.cons_cons _ (.cons_cons _ (.cons _ (List.Sublist.refl _)))))))), (by omega), (by rw [plN_succ hxq]; exact rmOk_do hok (hall k x hxq) hxq hall), rfl⟩, by omega⟩
          ·
            simp only [Bool.and_eq_true, Bool.or_eq_true, Bool.and_eq_false_iff, Bool.or_eq_false_iff, decide_eq_true_eq, decide_eq_false_iff_not, Bool.not_eq_true, Bool.not_eq_false, Bool.not_not, Bool.not_eq_eq_eq_not, Bool.not_true, Bool.not_false, Bool.false_eq_true, Bool.true_eq_false, ne_eq, Decidable.not_not, not_false_eq_true, not_true_eq_false] at c51
            refine exit ?_
            show Code.wp _ _ _ _ _
            refine seq ?_
            refine region ?_
            refine sv (yMove h4) ?_
            refine sv (yMove h5) ?_
            refine sv (yAsg rfl) ?_
            refine sv (yAsg rfl) ?_
            refine sv (yAsg rfl) ?_
            refine nil ?_
            show Code.wp _ _ _ _ _
            refine wp_ret ?_
            refine retQ (res3 rfl rfl rfl rfl) ?_
            obtain rfl : k = acts.length := by omega
            exact .inr ⟨hE, p, b, a, an, aa, cap, cn, ca, _, hv, rv, lv, rfl, hS.sub (.cons_cons _ (.cons_cons _ (.cons_cons _ (.cons_cons _ (.cons_cons _ (.cons _ (List.Sublist.refl _)))))))⟩
end Go.Proofs.YtghgnofilbnbaaaGreat

/- part C9 -/
namespace Go.Proofs.YtghgnofilbnbaaaGreat
open Go Bx
theorem playL_bad {c : Crew} {acts : List Acn} (h : playE c acts ≠ 0) : playL c acts = [] := if_pos h
theorem playL_ok {c : Crew} {acts : List Acn} (h : playE c acts = 0) : playL c acts = (plN c acts acts.length).1 := if_neg (not_not_intro h)
theorem playO_bad {c : Crew} {acts : List Acn} (h : playE c acts ≠ 0) : playO c acts = [] := if_pos h
theorem playO_ok {c : Crew} {acts : List Acn} (h : playE c acts = 0) : playO c acts = (plN c acts acts.length).2.ords := if_neg (not_not_intro h)
theorem playK_bad {c : Crew} {acts : List Acn} (h : playE c acts ≠ 0) : playK c acts = [] := if_pos h
theorem playK_ok {c : Crew} {acts : List Acn} (h : playE c acts = 0) : playK c acts = (plN c acts acts.length).2.hold := if_neg (not_not_intro h)
theorem c_play2 {c : Crew} {cs : List Value} {acts : List Acn} {av : Value} {w0 : World} (h : RCrew w0 cs c) (ha : Sl w0 6 RAct av acts) :
    CE Tryz.prog 17 #[.agg cs.toArray, av] w0 (fun u w' => ∃ pv lv, u = .tuple #[pv, lv, .int .i64 (playE c acts)] ∧ ((playE c acts ≠ 0 ∧ lv = .slice none 0 0 ∧ Ext w0 w') ∨ (playE c acts = 0 ∧ ∃ p C1 C2 C3 C4 C5 b hv rv, pv = .pointer (some ⟨p, 0, none⟩) ∧
      St w0 w' [blk p [C1, C2, C3, C4, C5, hv, .map (some b), rv] 64, rowI hv 3 1 (playK c acts).length ((playK c acts).flatMap Bx.encI), mapI b (Value.int .i64) (opM (plN c acts acts.length).2.opn), rowI rv 66 5 (playO c acts).length ((playO c acts).flatMap ordC), rowI lv 29 1 (playL c acts).length ((playL c acts).flatMap Bx.encI)]))) := by
  refine (c_play h ha).mono ?_
  rintro u w' (⟨h0, rfl, hX⟩ | ⟨h0, p, b, a, an, aa, cap, cn, ca, kv, hv, rv, lv, rfl, hM⟩)
  · exact ⟨_, _, rfl, .inl ⟨h0, rfl, hX⟩⟩
  · have e : rowI lv 29 1 acts.length ((plN c acts acts.length).1.flatMap Bx.encI) = rowI lv 29 1 (playL c acts).length ((playL c acts).flatMap Bx.encI) := by rw [playL_ok h0, plN_len]
    rw [e, ← playO_ok h0, ← playK_ok h0] at hM
    exact ⟨_, _, by rw [h0], .inr ⟨h0, p, _, _, _, _, _, b, hv, rv, rfl, hM⟩⟩
end Go.Proofs.YtghgnofilbnbaaaGreat

/- part Ck20 -/
namespace Go.Proofs.YtghgnofilbnbaaaGreat
open Go Bx
/-- barrage/crew.Play -/
theorem c_Play {c : Crew} {cs : List Value} {acts : List Acn} {av : Value} {w0 : World} (h : RCrew w0 cs c) (ha : Sl w0 6 RAct av acts) : CE Tryz.prog 5 #[.agg cs.toArray, av] w0 (fun u w' => ∃ lv, u = .tuple #[lv, .int .i64 (playE c acts)] ∧ St w0 w' [rowI lv 29 1 (playL c acts).length ((playL c acts).flatMap Bx.encI)]) := by
  obtain ⟨ov, kv, nv, rfl, hso, hsk, hsn, hrm⟩ := id h
  obtain ⟨a, cap, rfl, hcap, hmx, hel⟩ := id hso
  refine enter Tryz.func5 rfl Tryz.ntmps5 rfl ?_
  have hS := St.start w0
  refine seq ?_
  refine region ?_
  refine sbox hS rfl rfl ?_; clear hS; intro b2 w hS
  refine sv (yAsg rfl) ?_
  refine sv (yAsg rfl) ?_
  refine nil ?_
  show Code.wp _ _ _ _ _
  refine seq ?_
  refine region ?_
  refine sv (yLdBA rfl Tryz.isAgg26 Tryz.sizeOf26 (hS.at _) rfl rfl) ?_
  refine sv (yMove rfl) ?_
  refine scall Tryz.call17 (.cons rfl (.cons rfl .nil)) (c_play2 (h.ext hS.ext) (ha.ext RAct.stays hS.ext)) ?_
  rintro _ w ⟨pv, lv, rfl, hR⟩; have hS0 := hS; clear hS
  refine sv (yMove rfl) ?_
  refine sv (yExt rfl rfl) ?_
  refine sv (yExt rfl rfl) ?_
  refine sv (yExt rfl rfl) ?_
  refine sv (yAsg rfl) ?_
  refine sv (yAsg rfl) ?_
  refine sv (yAsg rfl) ?_
  refine nil ?_
  show Code.wp _ _ _ _ _
  refine seq ?_
  refine region ?_
  refine sv (yMove rfl) ?_
  refine sv (yMove rfl) ?_
  refine sv (yAsg rfl) ?_
  refine sv (yAsg rfl) ?_
  refine nil ?_
  show Code.wp _ _ _ _ _
  refine wp_ret ?_
  refine retQ (res2 rfl rfl rfl) ?_
  rcases hR with ⟨h0, rfl, hX⟩ | ⟨h0, p, C1, C2, C3, C4, C5, b, hv, rv, rfl, hM⟩
  · exact ⟨_, rfl, by rw [playL_bad h0]; exact ((hS0.step hX).nilrow 29 1).sub (.cons_cons _ (List.nil_sublist _))⟩
  · exact ⟨_, rfl, (hS0.call hM).sub (.cons _ (.cons _ (.cons _ (.cons _ (.cons_cons _ (List.nil_sublist _))))))⟩
/-- barrage/crew.Orders -/
theorem c_Orders {c : Crew} {cs : List Value} {acts : List Acn} {av : Value} {w0 : World} (h : RCrew w0 cs c) (ha : Sl w0 6 RAct av acts) : CE Tryz.prog 8 #[.agg cs.toArray, av] w0 (fun u w' => ∃ lv, u = .tuple #[lv, .int .i64 (playE c acts)] ∧ St w0 w' [rowI lv 66 5 (playO c acts).length ((playO c acts).flatMap ordC)]) := by
  obtain ⟨ov, kv, nv, rfl, hso, hsk, hsn, hrm⟩ := id h
  obtain ⟨a, cap, rfl, hcap, hmx, hel⟩ := id hso
  refine enter Tryz.func8 rfl Tryz.ntmps8 rfl ?_
  have hS := St.start w0
  refine seq ?_
  refine region ?_
  refine sbox hS rfl rfl ?_; clear hS; intro b2 w hS
  refine sv (yAsg rfl) ?_
  refine sv (yAsg rfl) ?_
  refine nil ?_
  show Code.wp _ _ _ _ _
  refine seq ?_
  refine region ?_
  refine sv (yLdBA rfl Tryz.isAgg26 Tryz.sizeOf26 (hS.at _) rfl rfl) ?_
  refine sv (yMove rfl) ?_
  refine scall Tryz.call17 (.cons rfl (.cons rfl .nil)) (c_play2 (h.ext hS.ext) (ha.ext RAct.stays hS.ext)) ?_
  rintro _ w ⟨pv, lv, rfl, hR⟩; have hS0 := hS; clear hS
  refine sv (yMove rfl) ?_
  refine sv (yExt rfl rfl) ?_
  refine sv (yExt rfl rfl) ?_
  refine sv (yExt rfl rfl) ?_
  refine sv (yAsg rfl) ?_
  refine sv (yAsg rfl) ?_
  refine sv (yAsg rfl) ?_
  refine nil ?_
  show Code.wp _ _ _ _ _
  refine seq ?_
  refine seq ?_
  refine region ?_
  refine sv (yMove rfl) ?_
  refine sv (yNeq rfl rfl) ?_
  refine nil ?_
  show Code.wp _ _ _ _ _
  refine cond rfl (fun c17 => ?_) (fun c17 => ?_)
  ·
    simp only [Bool.and_eq_true, Bool.or_eq_true, Bool.and_eq_false_iff, Bool.or_eq_false_iff, decide_eq_true_eq, decide_eq_false_iff_not, Bool.not_eq_true, Bool.not_eq_false, Bool.not_not, Bool.not_eq_eq_eq_not, Bool.not_true, Bool.not_false, Bool.false_eq_true, Bool.true_eq_false, ne_eq, Decidable.not_not, not_false_eq_true, not_true_eq_false] at c17
    rcases hR with ⟨h0, rfl, hX⟩ | ⟨h0, p, C1, C2, C3, C4, C5, b, hv, rv, rfl, hM⟩; rotate_left; exact absurd h0 c17
    have hS := hS0.step hX
    refine seq ?_
    refine region ?_
    refine sv (yMove rfl) ?_
    refine sv (yAsg rfl) ?_
    refine sv (yAsg rfl) ?_
    refine nil ?_
    show Code.wp _ _ _ _ _
    refine wp_ret (thenR ?_)
    refine retQ (res2 rfl rfl rfl) ?_
    exact ⟨_, rfl, by rw [playO_bad h0]; exact (hS.nilrow 66 5).sub (.cons_cons _ (List.nil_sublist _))⟩
  ·
    simp only [Bool.and_eq_true, Bool.or_eq_true, Bool.and_eq_false_iff, Bool.or_eq_false_iff, decide_eq_true_eq, decide_eq_false_iff_not, Bool.not_eq_true, Bool.not_eq_false, Bool.not_not, Bool.not_eq_eq_eq_not, Bool.not_true, Bool.not_false, Bool.false_eq_true, Bool.true_eq_false, ne_eq, Decidable.not_not, not_false_eq_true, not_true_eq_false] at c17
    rcases hR with ⟨h0, rfl, hX⟩ | ⟨h0, p, C1, C2, C3, C4, C5, b, hv, rv, rfl, hM⟩; exact absurd c17 h0
    have hS := hS0.call hM
    simp only [List.cons_append, List.nil_append] at hS
    refine skip ?_
    show Code.wp _ _ _ _ _
    refine seq ?_
    refine region ?_
    refine sv (yMove rfl) ?_
    refine sv (yNil rfl) ?_
    refine sv (fa64_5 rfl) ?_
    refine sv (yLdB rfl Tryz.isAgg33 (hS.at _) rfl) ?_
    refine sv (yAsg rfl) ?_
    refine sv (yAsg rfl) ?_
    refine nil ?_
    show Code.wp _ _ _ _ _
    refine wp_ret ?_
    refine retQ (res2 rfl rfl rfl) ?_
    exact ⟨_, by (rw [h0]; try rfl), hS.sub (.cons _ (.cons _ (.cons _ (.cons_cons _ (List.nil_sublist _)))))⟩
/-- barrage/crew.Keys -/
theorem c_Keys {c : Crew} {cs : List Value} {acts : List Acn} {av : Value} {w0 : World} (h : RCrew w0 cs c) (ha : Sl w0 6 RAct av acts) : CE Tryz.prog 11 #[.agg cs.toArray, av] w0 (fun u w' => ∃ lv, u = .tuple #[lv, .int .i64 (playE c acts)] ∧ St w0 w' [rowI lv 3 1 (playK c acts).length ((playK c acts).flatMap Bx.encI)]) := by
  obtain ⟨ov, kv, nv, rfl, hso, hsk, hsn, hrm⟩ := id h
  obtain ⟨a, cap, rfl, hcap, hmx, hel⟩ := id hso
  refine enter Tryz.func11 rfl Tryz.ntmps11 rfl ?_
  have hS := St.start w0
  refine seq ?_
  refine region ?_
  refine sbox hS rfl rfl ?_; clear hS; intro b2 w hS
  refine sv (yAsg rfl) ?_
  refine sv (yAsg rfl) ?_
  refine nil ?_
  show Code.wp _ _ _ _ _
  refine seq ?_
  refine region ?_
  refine sv (yLdBA rfl Tryz.isAgg26 Tryz.sizeOf26 (hS.at _) rfl rfl) ?_
  refine sv (yMove rfl) ?_
  refine scall Tryz.call17 (.cons rfl (.cons rfl .nil)) (c_play2 (h.ext hS.ext) (ha.ext RAct.stays hS.ext)) ?_
  rintro _ w ⟨pv, lv, rfl, hR⟩; have hS0 := hS; clear hS
  refine sv (yMove rfl) ?_
  refine sv (yExt rfl rfl) ?_
  refine sv (yExt rfl rfl) ?_
  refine sv (yExt rfl rfl) ?_
  refine sv (yAsg rfl) ?_
  refine sv (yAsg rfl) ?_
  refine sv (yAsg rfl) ?_
  refine nil ?_
  show Code.wp _ _ _ _ _
  refine seq ?_
  refine seq ?_
  refine region ?_
  refine sv (yMove rfl) ?_
  refine sv (yNeq rfl rfl) ?_
  refine nil ?_
  show Code.wp _ _ _ _ _
  refine cond rfl (fun c17 => ?_) (fun c17 => ?_)
  ·
    simp only [Bool.and_eq_true, Bool.or_eq_true, Bool.and_eq_false_iff, Bool.or_eq_false_iff, decide_eq_true_eq, decide_eq_false_iff_not, Bool.not_eq_true, Bool.not_eq_false, Bool.not_not, Bool.not_eq_eq_eq_not, Bool.not_true, Bool.not_false, Bool.false_eq_true, Bool.true_eq_false, ne_eq, Decidable.not_not, not_false_eq_true, not_true_eq_false] at c17
    rcases hR with ⟨h0, rfl, hX⟩ | ⟨h0, p, C1, C2, C3, C4, C5, b, hv, rv, rfl, hM⟩; rotate_left; exact absurd h0 c17
    have hS := hS0.step hX
    refine seq ?_
    refine region ?_
    refine sv (yMove rfl) ?_
    refine sv (yAsg rfl) ?_
    refine sv (yAsg rfl) ?_
    refine nil ?_
    show Code.wp _ _ _ _ _
    refine wp_ret (thenR ?_)
    refine retQ (res2 rfl rfl rfl) ?_
    exact ⟨_, rfl, by rw [playK_bad h0]; exact (hS.nilrow 3 1).sub (.cons_cons _ (List.nil_sublist _))⟩
  ·
    simp only [Bool.and_eq_true, Bool.or_eq_true, Bool.and_eq_false_iff, Bool.or_eq_false_iff, decide_eq_true_eq, decide_eq_false_iff_not, Bool.not_eq_true, Bool.not_eq_false, Bool.not_not, Bool.not_eq_eq_eq_not, Bool.not_true, Bool.not_false, Bool.false_eq_true, Bool.true_eq_false, ne_eq, Decidable.not_not, not_false_eq_true, not_true_eq_false] at c17
    rcases hR with ⟨h0, rfl, hX⟩ | ⟨h0, p, C1, C2, C3, C4, C5, b, hv, rv, rfl, hM⟩; exact absurd c17 h0
    have hS := hS0.call hM
    simp only [List.cons_append, List.nil_append] at hS
    refine skip ?_
    show Code.wp _ _ _ _ _
    refine seq ?_
    refine region ?_
    refine sv (yMove rfl) ?_
    refine sv (yNil rfl) ?_
    refine sv (fa64_3 rfl) ?_
    refine sv (yLdB rfl Tryz.isAgg37 (hS.at _) rfl) ?_
    refine sv (yAsg rfl) ?_
    refine sv (yAsg rfl) ?_
    refine nil ?_
    show Code.wp _ _ _ _ _
    refine wp_ret ?_
    refine retQ (res2 rfl rfl rfl) ?_
    exact ⟨_, by (rw [h0]; try rfl), hS.sub (.cons _ (.cons_cons _ (List.nil_sublist _)))⟩
end Go.Proofs.YtghgnofilbnbaaaGreat

/- part LibK -/
namespace Bx
open Go Go.RowKit
section
variable {κ : Type} [DecidableEq κ] {P : Program}
def FindOk (enc : κ → Value) (m : List (κ × Value)) (k : κ) (es : List MapEntry) (i : Nat) (r : Option (Nat × Value)) : Prop :=
  r.map (·.2) = getM m k ∧
  (∀ j v0, r = some (j, v0) → ∃ l, j = i + l ∧ ∃ (hl : l < es.length), es[l].key = enc k ∧ ∀ v, (es.modify l (fun e => { e with key := enc k, val := v })).map (fun (e : MapEntry) => (e.key, e.val)) = (setM m k v).map (fun p => (enc p.1, p.2))) ∧
  (r = none → ∀ v, (es ++ [(⟨enc k, v, 0⟩ : MapEntry)]).map (fun (e : MapEntry) => (e.key, e.val)) = (setM m k v).map (fun p => (enc p.1, p.2)))
structure KeyFn (P : Program) (T : TypeId) (enc : κ → Value) : Prop where
  check : ∀ e k w, (Instr.checkKey e 10000 T (enc k)).run P w = .ok () w
  find : ∀ (k : κ) (es : List MapEntry) (m : List (κ × Value)) (w : World), es.map (fun (e : MapEntry) => (e.key, e.val)) = m.map (fun p => (enc p.1, p.2)) → ∃ r, (Instr.findKey T (enc k) es).run P w = .ok r w ∧ FindOk enc m k es 0 r
  bits : ∀ a, Instr.sameBits 10000 (enc a) (enc a) = true
theorem findAsk_get {T : TypeId} {enc : κ → Value} (hd : ∀ a b w, (Op.equal T (enc a) (enc b)).run P w = .ok (decide (a = b)) w) (k : κ) (w : World) : ∀ (es : List MapEntry) (m : List (κ × Value)) (i : Nat), es.map (fun (e : MapEntry) => (e.key, e.val)) = m.map (fun p => (enc p.1, p.2)) →
    ∃ r, (Instr.findAsking T (enc k) es i).run P w = .ok r w ∧ FindOk enc m k es i r
  | [], m, i, h => by
    obtain rfl : m = [] := by simpa using h.symm
    exact ⟨none, rfl, rfl, (fun _ _ e => by cases e), fun _ v => rfl⟩
  | e :: es, m, i, h => by
    cases m with
    | nil => simp at h
    | cons p m =>
      obtain ⟨a, x⟩ := p
      simp only [List.map_cons, List.cons.injEq, Prod.mk.injEq] at h
      obtain ⟨⟨h1, h2⟩, h3⟩ := h
      by_cases hka : k = a
      · subst hka
        refine ⟨some (i, e.val), by simp [Instr.findAsking, h1, hd], by simp [getM, h2], ?_, fun e => by cases e⟩
        intro j v0 hj
        simp only [Option.some.injEq, Prod.mk.injEq] at hj
        refine ⟨0, by omega, by simp, h1, fun v => ?_⟩
        simp [setM, h3]
      · obtain ⟨r, hr1, hr2, hr3, hr4⟩ := findAsk_get hd k w es m (i + 1) h3
        refine ⟨r, by simp [Instr.findAsking, h1, hd, hka, hr1], by simp [getM, hka, hr2], ?_, ?_⟩
        · intro j v0 hj
          obtain ⟨l, rfl, hl, hk, hv⟩ := hr3 j v0 hj
          refine ⟨l + 1, by omega, by simp; omega, by simpa using hk, fun v => ?_⟩
          have := hv v
          simp only [List.modify_succ_cons, List.map_cons, setM, hka, if_false, h1, h2]
          rw [this]
        · intro hn v
          have := hr4 hn v
          simp only [List.cons_append, List.map_cons, setM, hka, if_false, h1, h2]
          rw [this]
theorem KeyFn.struct {T : TypeId} {enc : κ → Value} {fs : Array Field} (hu : P.underlying T = some (.struct fs)) (hd : ∀ a b w, (Op.equal T (enc a) (enc b)).run P w = .ok (decide (a = b)) w) (hc : ∀ e k w, (Instr.checkKey e 10000 T (enc k)).run P w = .ok () w) (hb : ∀ a, Instr.sameBits 10000 (enc a) (enc a) = true) : KeyFn P T enc := by
  refine ⟨hc, fun k es m w h => ?_, hb⟩
  obtain ⟨r, hr, hok⟩ := findAsk_get hd k w es m 0 h
  refine ⟨r, ?_, hok⟩
  simp only [Instr.findKey, Sem.run_bind, run_underlying hu, Result.andThen_ok]
  cases es with
  | nil => simpa [Instr.findNow, Instr.findAsking] using hr
  | cons e es => simpa [Instr.findNow, Instr.sameNow] using hr
theorem run_lookup2 {w : World} {T K E : TypeId} {b : Nat} {enc : κ → Value} {m : List (κ × Value)} {k : κ} {z : Value} {ok : Bool} (hT : ∀ w, (underlying T).run P w = .ok (.map K E) w) (hk : KeyFn P K enc) (hz : ∀ w, (zeroValue E).run P w = .ok z w)
    (hb : ∃ o, w.heap[b]? = some o ∧ MapOk enc m o) : (Instr.lookup T (.map (some b)) (enc k) ok).run P w = .ok (if ok then .tuple #[(getM m k).getD z, .bool (getM m k).isSome] else (getM m k).getD z) w := by
  obtain ⟨o, hb, es, c, rfl, hm⟩ := hb
  obtain ⟨r, hr, hg, _⟩ := hk.find k es.toList m w hm
  have hget : (getObj b).run P w = .ok (.map es c) w := by simp [getObj, Sem.run, hb]
  rw [← hg]
  simp only [Instr.lookup, Sem.run_bind, hT, Result.andThen_ok, hget, Sem.run_pure, hk.check, hr]
  cases r with
  | none => simp [hz]
  | some p => simp
theorem run_mapUpdate2 {w : World} {T K E : TypeId} {b : Nat} {enc : κ → Value} {m : List (κ × Value)} {k : κ} {v : Value} (hT : ∀ w, (underlying T).run P w = .ok (.map K E) w) (hk : KeyFn P K enc)
    (hb : ∃ o, w.heap[b]? = some o ∧ MapOk enc m o) : ∃ o' w', (Instr.mapUpdate T (.map (some b)) (enc k) v).run P w = .ok () w' ∧ Put b o' w w' ∧ MapOk enc (setM m k v) o' := by
  obtain ⟨o, hb, es, c, rfl, hm⟩ := hb
  obtain ⟨r, hr, _, hsome, hnone⟩ := hk.find k es.toList m w hm
  have hget : (getObj b).run P w = .ok (.map es c) w := by simp [getObj, Sem.run, hb]
  have hlt : b < w.heap.size := lt_of_heap hb
  have hset : ∀ o', (setObj b o').run P w = .ok () { w with heap := w.heap.setIfInBounds b o' } := fun o' => by simp [setObj, Sem.run, hb]
  have hput : ∀ o', Put b o' w { w with heap := w.heap.setIfInBounds b o' } := fun o' => by
    refine ⟨rfl, rfl, rfl, by simp, by simp [hlt], fun j _ hj => ?_⟩
    show (w.heap.setIfInBounds b o')[j]? = _
    rw [Array.getElem?_setIfInBounds, if_neg (fun e => hj e.symm)]
  cases r with
  | none =>
    refine ⟨.map (es.push ⟨enc k, v, c⟩) (c + 1), _, ?_, hput _, _, _, rfl, ?_⟩
    · simp only [Instr.mapUpdate, Sem.run_bind, hT, Result.andThen_ok, hget, hk.check, hr, Sem.run_pure, hset]
    · have := hnone rfl v
      simpa using this
  | some p =>
    obtain ⟨j, v0⟩ := p
    obtain ⟨l, hj, hl, hkey, hv⟩ := hsome j v0 rfl
    rw [Nat.zero_add] at hj
    subst hj
    have hl' : j < es.size := by simpa using hl
    have hstay : ∀ w, (Instr.keyThatStays (((es[j]?).map (·.key)).getD (enc k)) (enc k)).run P w = .ok (enc k) w := fun w => by
      have : es[j].key = enc k := by simpa using hkey
      simp [Instr.keyThatStays, hl', this, hk.bits]
    refine ⟨.map (es.modify j fun e => { e with key := enc k, val := v }) c, _, ?_, hput _, _, _, rfl, ?_⟩
    · simp only [Instr.mapUpdate, Sem.run_bind, hT, Result.andThen_ok, hget, hk.check, hr, Sem.run_pure, hstay, hset]
    · have := hv v
      simpa [Array.toList_modify] using this
end
section
variable {P : Program} {ops : Array Oper} {Q : Exit → Act → World → Prop} {n : Nat} {f : Fr} {S : List Nat} {w0 w w' : World} {L L' : List Item} {rest : List Oper} {d : Nat} {ty : TypeId} {pos : String} {af : Array Edge}
variable {κ : Type} [DecidableEq κ]
theorem smapset2 (enc : κ → Value) {T K E : TypeId} {xm xk xv : Operand} {b : Nat} {m : List (κ × Value)} {k : κ} {v : Value} (hS : StX S w0 w L) (hm : ev n f xm = .map (some b)) (hx : ev n f xk = enc k) (hv : ev n f xv = v) (hT : ∀ w, (underlying T).run P w = .ok (.map K E) w)
    (hk : KeyFn P K enc) [i : AtB L b (MapOk enc m)] [j : SetB L b (MapOk enc (setM m k v)) L'] (h : ∀ w', StX S w0 w' L' → wpL P ops Q n rest f w') : wpL P ops Q n (⟨none, .mapUpdate T xm xk xv, ty, pos, af, none⟩ :: rest) f w := by
  obtain ⟨o', w', hr, hp, ho⟩ := run_mapUpdate2 (k := k) (v := v) hT hk (hS.is b)
  refine wpL_skip (w' := w') ?_ (h w' (hS.puts hp ho))
  simp [xop, execOp, hm, hx, hv, hr]
theorem yLookOk2 (enc : κ → Value) {ρ : Operand → Value} {T K E : TypeId} {xm xk : Operand} {b : Nat} {m : List (κ × Value)} {k : κ} {z v : Value} (hm : ρ xm = .map (some b)) (hx : ρ xk = enc k) (hT : ∀ w, (underlying T).run P w = .ok (.map K E) w) (hk : KeyFn P K enc)
    (hz : ∀ w, (zeroValue E).run P w = .ok z w) (hb : ∃ o, w.heap[b]? = some o ∧ MapOk enc m o) (hv : (getM m k).getD z = v) : Y P ρ (.lookup T xm xk true) ty w (.tuple #[v, .bool (getM m k).isSome]) w := by
  subst hv
  simp [Y, xop, execOp, hm, hx, run_lookup2 (ok := true) hT hk hz hb]
end
section
variable {P : Program} {ops : Array Oper} {Q : Exit → Act → World → Prop} {n : Nat} {rest : List Oper} {f : Fr} {w : World} {d : Nat} {ty : TypeId} {pos : String} {af : Array Edge}
/-- A guarded call that changes what is owned. -/
theorem wpL_gcallR {j : Nat} {want : Bool} {dj : Nat} {fx : Operand} {g : FuncId} {xs : List Operand} {ts : Array TypeId} {vs cl : List Value} {v : Value} {G : Prop} (Inv : World → Prop) (hI : Inv w) (hd : dstOf ops j = some dj) (hn : Nat.blt dj n = true) (hG : G ↔ f dj = .bool want)
    (hf : G → ev n f fx = .func (.func g) #[] cl.toArray) (hc : ∀ ars w, (callFunc g ars).run P w = .ok (.enter g ars) w) (ha : G → Evs (ev n f) xs vs) (hC : G → CE P g (vs ++ cl).toArray w (fun u w' => u = v ∧ Inv w'))
    (h : ∀ v' w', Inv w' → Cnd G v' v → wpL P ops Q n rest (upd f d v') w') :
    wpL P ops Q n (⟨some d, .call ⟨.value fx, xs.toArray, ts⟩, ty, pos, af, some (j, want)⟩ :: rest) f w := by
  rw [Nat.blt_eq] at hn
  have hy := yielded_eq (f := f) hd hn
  by_cases g' : G
  · have hfj := hG.1 g'
    have := scallf (P := P) (ops := ops) (Q := Q) (rest := rest) (d := d) (ty := ty) (pos := pos) (af := af) (ts := ts) (hf g') hc (ha g') (hC g') (fun v' w' (hR : v' = v ∧ Inv w') => h v' w' hR.2 ⟨fun _ => hR.1, fun hn => absurd g' hn⟩)
    unfold wpL at this ⊢
    unfold wpList at this ⊢
    rw [hfj] at hy
    rw [if_pos (by simp [Region.wanted, hy])]
    rw [if_pos (by simp [Region.wanted])] at this
    exact this
  · have hfj : f dj ≠ .bool want := fun e => g' (hG.2 e)
    unfold wpL
    unfold wpList
    rw [if_neg (by
      simp only [Region.wanted, hy]
      intro hc
      cases hv : f dj <;> simp [hv] at hc
      rename_i b
      exact hfj (by rw [hv, hc]))]
    show wpList P ops Q rest ((mk n f).put (some d) undef) w
    rw [mk_put]
    exact h undef w hI ⟨fun hg => absurd hg g', fun _ => rfl⟩
theorem sggR {j : Nat} {want : Bool} {dj : Nat} {fx : Operand} {g : FuncId} {xs : List Operand} {ts : Array TypeId} {vs cl : List Value} {v : Value} {B : Bool} {Gj : Prop} (Inv : World → Prop) (hI : Inv w) (hd : dstOf ops j = some dj) (hn : Nat.blt dj n = true) (hb : Cnd Gj (f dj) (.bool B))
    (hf : Gj ∧ B = want → ev n f fx = .func (.func g) #[] cl.toArray) (hc : ∀ ars w, (callFunc g ars).run P w = .ok (.enter g ars) w) (ha : Gj ∧ B = want → Evs (ev n f) xs vs) (hC : Gj ∧ B = want → CE P g (vs ++ cl).toArray w (fun u w' => u = v ∧ Inv w'))
    (h : ∀ v' w', Inv w' → Cnd (Gj ∧ B = want) v' v → wpL P ops Q n rest (upd f d v') w') :
    wpL P ops Q n (⟨some d, .call ⟨.value fx, xs.toArray, ts⟩, ty, pos, af, some (j, want)⟩ :: rest) f w :=
  wpL_gcallR Inv hI hd hn (cnd_iff hb) hf hc ha hC h
end
def encSp (p : Int × Int) : Value := .agg #[.int .i64 p.1, .int .i64 p.2]
end Bx

/- part C10 -/
namespace Bx
open Go Go.RowKit
structure Stp where
  kind : Int
  subj : Int
  after : Int
  least : Int
  most : Int
structure Scr where
  name : ByteArray
  steps : List Stp
def stpC (x : Stp) : List Value := [.int .i64 x.kind, .int .i64 x.subj, .int .i64 x.after, .int .i64 x.least, .int .i64 x.most]
def RStp (_ : World) (cs : List Value) (x : Stp) : Prop := cs = stpC x ∧ I64 x.kind ∧ I64 x.subj ∧ I64 x.after ∧ I64 x.least ∧ I64 x.most
theorem RStp.stays : Stays RStp := fun _ _ _ _ _ h => h
def RScr (w : World) (cs : List Value) (s : Scr) : Prop := ∃ sv, cs = [.string s.name, sv] ∧ s.name.size ≤ 9223372036854775807 ∧ Sl w 5 RStp sv s.steps
theorem RScr.ext {w w' : World} {cs : List Value} {s : Scr} (h : RScr w cs s) (e : Ext w w') : RScr w' cs s := by obtain ⟨sv, h1, h2, h3⟩ := h; exact ⟨sv, h1, h2, h3.ext RStp.stays e⟩
def stepE (c : Crew) (i : Int) (x : Stp) : Int :=
  if outB x.kind 0 ((c.kinds.length : Int) - 1) = true then 4 else if outB x.subj 0 1000 = true then 7 else if outB x.after (-1) (i - 1) = true then 4 else if (outB x.most 0 240 || outB x.least 0 x.most) = true then 7 else 0
structure StpOk (c : Crew) (i : Int) (x : Stp) : Prop where
  kind : 0 ≤ x.kind ∧ x.kind < c.kinds.length
  subj : 0 ≤ x.subj ∧ x.subj ≤ 1000
  after : -1 ≤ x.after ∧ x.after < i
  most : 0 ≤ x.most ∧ x.most ≤ 240
  least : 0 ≤ x.least ∧ x.least ≤ x.most
theorem stpOk_iff (c : Crew) (i : Int) (x : Stp) : stepE c i x = 0 ↔ StpOk c i x := by
  unfold stepE
  constructor
  · intro h
    split at h
    · cases h
    split at h
    · cases h
    split at h
    · cases h
    split at h
    · cases h
    rename_i h1 h2 h3 h4
    simp only [Bool.not_eq_true, Bool.or_eq_false_iff, outB_false] at h1 h2 h3 h4
    exact ⟨by omega, h2, by omega, h4.1, h4.2⟩
  · rintro ⟨h1, h2, h3, h4, h5⟩
    rw [if_neg (by rw [Bool.not_eq_true, outB_false]; omega), if_neg (by rw [Bool.not_eq_true, outB_false]; omega), if_neg (by rw [Bool.not_eq_true, outB_false]; omega), if_neg (by rw [Bool.not_eq_true, Bool.or_eq_false_iff, outB_false, outB_false]; omega)]
def firstS (c : Crew) : List Stp → Int → Int × Int
  | [], _ => (0, 0)
  | x :: l, i => if stepE c i x ≠ 0 then (i, stepE c i x) else firstS c l (i + 1)
def scriptF (c : Crew) (s : Scr) : Int × Int :=
  if (checkC c).2.2 ≠ 0 then (-1, (checkC c).2.2) else if (!isName s.name) = true then (-1, 6) else if outB s.steps.length 1 10 = true then (-1, 3) else firstS c s.steps 0
theorem firstS_drop {c : Crew} {l : List Stp} {k : Nat} {x : Stp} (h : l.drop k = x :: l.drop (k + 1)) (h0 : stepE c k x = 0) : firstS c (l.drop k) k = firstS c (l.drop (k + 1)) ((k + 1 : Nat) : Int) := by
  rw [h, firstS, if_neg (not_not_intro h0)]; rfl
theorem firstS_hit {c : Crew} {l : List Stp} {k : Nat} {x : Stp} (h : l.drop k = x :: l.drop (k + 1)) (h0 : stepE c k x ≠ 0) : firstS c (l.drop k) k = ((k : Int), stepE c k x) := by rw [h, firstS, if_pos h0]
theorem firstS_ok {c : Crew} : ∀ {l : List Stp} {i : Int}, (firstS c l i).2 = 0 → ∀ (j : Nat) y, l[j]? = some y → StpOk c (i + j) y
  | [], _, _, j, y, h => by simp at h
  | a :: l, i, h, j, y, hy => by
    unfold firstS at h
    split at h
    · rename_i h1; exact absurd h h1
    · rename_i h1
      cases j with
      | zero =>
        rw [List.getElem?_cons_zero] at hy
        cases hy
        have := (stpOk_iff c i a).1 (Classical.not_not.1 h1)
        simpa using this
      | succ j =>
        have := firstS_ok h j y (by simpa using hy)
        rw [show i + ((j + 1 : Nat) : Int) = i + 1 + j by omega]
        exact this
structure ScrOk (c : Crew) (s : Scr) : Prop where
  crew : CrewOk c
  name : isName s.name = true
  len : 1 ≤ s.steps.length ∧ s.steps.length ≤ 10
  steps : ∀ (j : Nat) y, s.steps[j]? = some y → StpOk c j y
theorem scrOk_of {c : Crew} {s : Scr} (h : (scriptF c s).2 = 0) : ScrOk c s := by
  unfold scriptF at h
  split at h
  · rename_i h1; exact absurd h h1
  split at h
  · cases h
  split at h
  · cases h
  · rename_i h1 h2 h3
    simp only [Bool.not_eq_true, outB_false, Bool.not_eq_false', Bool.not_eq_true'] at h2 h3
    refine ⟨crewOk_of (Classical.not_not.1 h1), by simpa using h2, by omega, fun j y hy => ?_⟩
    have := firstS_ok h j y hy
    rwa [Int.zero_add] at this
/-! ### windows -/
def winS (l : List (Int × Int)) (x : Stp) : Int × Int := if 0 ≤ x.after then (x.least + (l.getD x.after.toNat (0, 0)).1, x.most + (l.getD x.after.toNat (0, 0)).2) else (x.least, x.most)
def winL (ss : List Stp) : List (Int × Int) := ss.foldl (fun l x => l ++ [winS l x]) []
theorem winL_take {ss : List Stp} {k : Nat} {x : Stp} (h : ss[k]? = some x) : winL (ss.take (k + 1)) = winL (ss.take k) ++ [winS (winL (ss.take k)) x] := by
  unfold winL; rw [take_snoc h, List.foldl_append]; rfl
theorem winL_len (ss : List Stp) : (winL ss).length = ss.length := by
  have : ∀ (ss : List Stp) (l : List (Int × Int)), (ss.foldl (fun l x => l ++ [winS l x]) l).length = l.length + ss.length := by
    intro ss
    induction ss with
    | nil => intro l; rfl
    | cons x ss ih => intro l; rw [List.foldl_cons, ih]; simp; omega
  have := this ss []
  simpa [winL] using this
/-! ### plans -/
def firstIn (p : Int → Bool) (lo hi : Int) : Int := match (List.range (hi - lo + 1).toNat).find? (fun (j : Nat) => p (lo + (j : Int))) with
  | some j => lo + j
  | none => -1
theorem firstIn_hit {p : Int → Bool} {lo hi : Int} {j : Nat} (hj : lo + j ≤ hi) (hp : p (lo + j) = true) (hn : ∀ i : Nat, i < j → p (lo + i) = false) : firstIn p lo hi = lo + j := by
  unfold firstIn
  have : (List.range (hi - lo + 1).toNat).find? (fun (j : Nat) => p (lo + (j : Int))) = some j := by
    rw [List.find?_range_eq_some]
    refine ⟨hp, List.mem_range.2 (by omega), fun i hi => by simp [hn i hi]⟩
  rw [this]
theorem firstIn_none {p : Int → Bool} {lo hi : Int} (hn : ∀ i : Nat, lo + i ≤ hi → p (lo + i) = false) : firstIn p lo hi = -1 := by
  unfold firstIn
  have : (List.range (hi - lo + 1).toNat).find? (fun (j : Nat) => p (lo + (j : Int))) = none := by
    rw [List.find?_eq_none]
    intro i hi
    rw [hn i (by have := List.mem_range.1 hi; omega)]
    decide
  rw [this]
abbrev nStp : Stp := ⟨0, 0, 0, 0, 0⟩
def stpAt (s : Scr) (i : Nat) : Stp := s.steps.getD i nStp
def baseP (c : Crew) (s : Scr) (st : Nat) (m : Int) : Bool := !neverB m && ableB c (kndAt c (stpAt s st).kind) m
def canN (c : Crew) (s : Scr) : Nat → Nat → Int → Bool
  | 0, _, _ => false
  | d + 1, st, m => baseP c s st m && (List.range s.steps.length).all fun k => decide ((stpAt s k).after ≠ (st : Int)) || decide (0 ≤ firstIn (canN c s d k) (m + (stpAt s k).least) (m + (stpAt s k).most))
def canS (c : Crew) (s : Scr) (st : Nat) (m : Int) : Bool := canN c s (s.steps.length - st) st m
def firstP (c : Crew) (s : Scr) (st : Nat) (b : Int) : Int := firstIn (canS c s st) (b + (stpAt s st).least) (b + (stpAt s st).most)
theorem stpAt_hit {s : Scr} {k : Nat} {x : Stp} (h : s.steps[k]? = some x) : stpAt s k = x := getD_hit h
theorem canN_stable {c : Crew} {s : Scr} (hs : ∀ (j : Nat) y, s.steps[j]? = some y → StpOk c j y) : ∀ (d st : Nat), st < s.steps.length → s.steps.length - st ≤ d → canN c s d st = canN c s (s.steps.length - st) st := by
  intro d
  induction d using Nat.strongRecOn with
  | _ D ih =>
    intro st h1 h2
    obtain ⟨d, rfl⟩ : ∃ d, D = d + 1 := ⟨D - 1, by omega⟩
    obtain ⟨e, he⟩ : ∃ e, s.steps.length - st = e + 1 := ⟨s.steps.length - st - 1, by omega⟩
    rw [he]
    funext m
    simp only [canN]
    congr 1
    have key : ∀ k ∈ List.range s.steps.length, (decide ((stpAt s k).after ≠ (st : Int)) || decide (0 ≤ firstIn (canN c s d k) (m + (stpAt s k).least) (m + (stpAt s k).most))) = (decide ((stpAt s k).after ≠ (st : Int)) || decide (0 ≤ firstIn (canN c s e k) (m + (stpAt s k).least) (m + (stpAt s k).most))) := by
      intro k hk
      have hk := List.mem_range.1 hk
      by_cases ha : (stpAt s k).after = (st : Int)
      · have hok := hs k _ (List.getElem?_eq_getElem hk)
        rw [← stpAt_hit (List.getElem?_eq_getElem hk)] at hok
        have hlt := hok.after.2
        have hkst : st < k := by omega
        rw [ih d (by omega) k hk (by omega)]
        have : canN c s e k = canN c s (s.steps.length - k) k := by
          exact ih e (by omega) k hk (by omega)
        rw [this]
      · simp [ha]
    rw [Bool.eq_iff_iff, List.all_eq_true, List.all_eq_true]
    exact ⟨fun h k hk => by rw [← key k hk]; exact h k hk, fun h k hk => by rw [key k hk]; exact h k hk⟩
theorem canS_eq {c : Crew} {s : Scr} (hs : ∀ (j : Nat) y, s.steps[j]? = some y → StpOk c j y) {st : Nat} (h : st < s.steps.length) (m : Int) : canS c s st m = (baseP c s st m && (List.range s.steps.length).all fun k => decide ((stpAt s k).after ≠ (st : Int)) || decide (0 ≤ firstP c s k m)) := by
  unfold canS
  obtain ⟨e, he⟩ : ∃ e, s.steps.length - st = e + 1 := ⟨s.steps.length - st - 1, by omega⟩
  rw [he]
  simp only [canN]
  congr 1
  have key : ∀ k ∈ List.range s.steps.length, (decide ((stpAt s k).after ≠ (st : Int)) || decide (0 ≤ firstIn (canN c s e k) (m + (stpAt s k).least) (m + (stpAt s k).most))) = (decide ((stpAt s k).after ≠ (st : Int)) || decide (0 ≤ firstP c s k m)) := by
    intro k hk
    have hk := List.mem_range.1 hk
    by_cases ha : (stpAt s k).after = (st : Int)
    · have hok := hs k _ (List.getElem?_eq_getElem hk)
      rw [← stpAt_hit (List.getElem?_eq_getElem hk)] at hok
      have hlt := hok.after.2
      rw [canN_stable hs e k hk (by omega)]
      rfl
    · simp [ha]
  rw [Bool.eq_iff_iff, List.all_eq_true, List.all_eq_true]
  exact ⟨fun h k hk => by rw [← key k hk]; exact h k hk, fun h k hk => by rw [key k hk]; exact h k hk⟩
theorem canS_never {c : Crew} {s : Scr} (hs : ∀ (j : Nat) y, s.steps[j]? = some y → StpOk c j y) {st : Nat} (h : st < s.steps.length) {m : Int} (hc : canS c s st m = true) : 0 ≤ m ∧ m ≤ 100000 := by
  rw [canS_eq hs h, Bool.and_eq_true, baseP, Bool.and_eq_true, Bool.not_eq_true', neverB, outB_false] at hc
  exact hc.1.1
/-- What the map of spots knows. -/
def MemOk (c : Crew) (s : Scr) (M : List ((Int × Int) × Value)) : Prop := ∀ (st : Nat) (m : Int) v, getM M ((st : Int), m) = some v → v = .bool (canS c s st m)
theorem MemOk.nil (c : Crew) (s : Scr) : MemOk c s [] := fun _ _ _ h => by cases h
theorem MemOk.set {c : Crew} {s : Scr} {M : List ((Int × Int) × Value)} {st : Nat} {m : Int} {b : Bool} (h : MemOk c s M) (hb : b = canS c s st m) : MemOk c s (setM M ((st : Int), m) (.bool b)) := by
  intro st' m' v hv
  rw [getM_setM] at hv
  split at hv
  · rename_i e
    simp only [Prod.mk.injEq, Int.natCast_inj] at e
    obtain ⟨rfl, rfl⟩ := e
    cases hv
    rw [hb]
  · exact h st' m' v hv
theorem MemOk.get {c : Crew} {s : Scr} {M : List ((Int × Int) × Value)} {st : Nat} {m : Int} {z : Value} (h : MemOk c s M) (hs : (getM M ((st : Int), m)).isSome = true) : (getM M ((st : Int), m)).getD z = .bool (canS c s st m) := by
  obtain ⟨v, hv⟩ := Option.isSome_iff_exists.1 hs
  rw [hv, h st m v hv]; rfl
def planR (c : Crew) (s : Scr) (start : Int) : List Stp → Nat → List Int → Option (List Int)
  | [], _, l => some l
  | x :: r, i, l => if firstP c s i (if 0 ≤ x.after then l.getD x.after.toNat 0 else start) < 0 then none else planR c s start r (i + 1) (l ++ [firstP c s i (if 0 ≤ x.after then l.getD x.after.toNat 0 else start)])
def planE (c : Crew) (s : Scr) (start : Int) : Int := if (scriptF c s).2 ≠ 0 then (scriptF c s).2 else if neverB start = true then 7 else match planR c s start s.steps 0 [] with
  | none => 9
  | some _ => 0
def planL (c : Crew) (s : Scr) (start : Int) : List Int := if (scriptF c s).2 ≠ 0 then [] else if neverB start = true then [] else match planR c s start s.steps 0 [] with
  | none => []
  | some l => l
def accK (c : Crew) (s : Scr) (st : Nat) (m : Int) (k : Nat) : Bool := baseP c s st m && (List.range k).all fun k => decide ((stpAt s k).after ≠ (st : Int)) || decide (0 ≤ firstP c s k m)
theorem accK_zero (c : Crew) (s : Scr) (st : Nat) (m : Int) : accK c s st m 0 = baseP c s st m := by simp [accK]
theorem accK_succ {c : Crew} {s : Scr} {st : Nat} {m : Int} {k : Nat} {y : Stp} (h : stpAt s k = y) : accK c s st m (k + 1) = (accK c s st m k && (decide (y.after ≠ (st : Int)) || decide (0 ≤ firstP c s k m))) := by
  unfold accK; rw [List.range_succ, List.all_append, List.all_cons, List.all_nil, Bool.and_true, h, Bool.and_assoc]
theorem accK_full {c : Crew} {s : Scr} (hs : ∀ (j : Nat) y, s.steps[j]? = some y → StpOk c j y) {st : Nat} (h : st < s.steps.length) (m : Int) : accK c s st m s.steps.length = canS c s st m := (canS_eq hs h m).symm
theorem accK_never {c : Crew} {s : Scr} {st : Nat} {m : Int} {k : Nat} (h : accK c s st m k = true) : 0 ≤ m ∧ m ≤ 100000 := by
  rw [accK, Bool.and_eq_true, baseP, Bool.and_eq_true, Bool.not_eq_true', neverB, outB_false] at h
  exact h.1.1
theorem baseP_eq {c : Crew} {s : Scr} {st : Nat} {m : Int} {x : Stp} {z : Knd} (hx : stpAt s st = x) (hz : kndAt c x.kind = z) : baseP c s st m = (!neverB m && ableB c z m) := by unfold baseP; rw [hx, hz]
end Bx
namespace Bx
open Go Go.RowKit
def befP (start : Int) (l : List Int) (x : Stp) : Int := if 0 ≤ x.after then l.getD x.after.toNat 0 else start
theorem planR_cons (c : Crew) (s : Scr) (start : Int) (x : Stp) (r : List Stp) (i : Nat) (l : List Int) : planR c s start (x :: r) i l = if firstP c s i (befP start l x) < 0 then none else planR c s start r (i + 1) (l ++ [firstP c s i (befP start l x)]) := rfl
theorem planE_bad {c : Crew} {s : Scr} {start : Int} (h : (scriptF c s).2 ≠ 0) : planE c s start = (scriptF c s).2 ∧ planL c s start = [] := ⟨if_pos h, if_pos h⟩
theorem planE_never {c : Crew} {s : Scr} {start : Int} (h : (scriptF c s).2 = 0) (hn : neverB start = true) : planE c s start = 7 ∧ planL c s start = [] := ⟨by unfold planE; rw [if_neg (not_not_intro h), if_pos hn], by unfold planL; rw [if_neg (not_not_intro h), if_pos hn]⟩
theorem planE_none {c : Crew} {s : Scr} {start : Int} (h : (scriptF c s).2 = 0) (hn : neverB start = false) (hp : planR c s start s.steps 0 [] = none) : planE c s start = 9 ∧ planL c s start = [] := ⟨by unfold planE; rw [if_neg (not_not_intro h), if_neg (by rw [hn]; decide), hp], by unfold planL; rw [if_neg (not_not_intro h), if_neg (by rw [hn]; decide), hp]⟩
theorem planE_some {c : Crew} {s : Scr} {start : Int} {l : List Int} (h : (scriptF c s).2 = 0) (hn : neverB start = false) (hp : planR c s start s.steps 0 [] = some l) : planE c s start = 0 ∧ planL c s start = l := ⟨by unfold planE; rw [if_neg (not_not_intro h), if_neg (by rw [hn]; decide), hp], by unfold planL; rw [if_neg (not_not_intro h), if_neg (by rw [hn]; decide), hp]⟩
theorem firstIn_spec {p : Int → Bool} {lo hi : Int} (h : 0 ≤ firstIn p lo hi ∨ firstIn p lo hi ≠ -1) : ∃ j : Nat, firstIn p lo hi = lo + j ∧ lo + j ≤ hi ∧ p (lo + j) = true ∧ ∀ i : Nat, i < j → p (lo + i) = false := by
  unfold firstIn at h ⊢
  cases hf : (List.range (hi - lo + 1).toNat).find? (fun (j : Nat) => p (lo + (j : Int))) with
  | none => rw [hf] at h; simp at h
  | some j =>
    rw [List.find?_range_eq_some] at hf
    exact ⟨j, rfl, by have := List.mem_range.1 hf.2.1; omega, hf.1, fun i hi => by have := hf.2.2 i hi; simpa using this⟩
theorem firstP_bd {c : Crew} {s : Scr} (hs : ∀ (j : Nat) y, s.steps[j]? = some y → StpOk c j y) {st : Nat} (hl : st < s.steps.length) {b : Int} (h : ¬ firstP c s st b < 0) : 0 ≤ firstP c s st b ∧ firstP c s st b ≤ 100000 := by
  obtain ⟨j, h1, _, h3, _⟩ := firstIn_spec (p := canS c s st) (lo := b + (stpAt s st).least) (hi := b + (stpAt s st).most) (.inl (by unfold firstP at h; omega))
  have := canS_never hs hl h3
  unfold firstP
  omega
theorem befP_bd {start : Int} {l : List Int} {x : Stp} (h1 : 0 ≤ start ∧ start ≤ 100000) (h2 : ∀ y ∈ l, 0 ≤ y ∧ y ≤ 100000) : 0 ≤ befP start l x ∧ befP start l x ≤ 100000 := by
  unfold befP
  split
  · rw [List.getD_eq_getElem?_getD]
    cases hi : l[x.after.toNat]? with
    | none => exact ⟨Int.le_refl _, by decide⟩
    | some y => exact h2 y (List.mem_of_getElem? hi)
  · exact h1
end Bx

/- part Ck21 -/
namespace Go.Proofs.YtghgnofilbnbaaaGreat
open Go Bx
set_option maxHeartbeats 1000000 in
/-- barrage/crew.step -/
theorem c_step {c : Crew} {cs : List Value} {i : Nat} {x : Stp} {w0 : World} (h : RCrew w0 cs c) (hi : i ≤ 1000) : CV Tryz.prog 46 #[.agg cs.toArray, .int .i64 (i : Int), .agg (stpC x).toArray] w0 (.int .i64 (stepE c i x)) := by
  obtain ⟨ov, kv, nv, rfl, hso, hsk, hsn, hrm⟩ := id h
  obtain ⟨a, cap, rfl, hcap, hmx, hel⟩ := id hso
  obtain ⟨an, cn, rfl, hncap, hnmx, -⟩ := id hsn
  refine enter Tryz.func46 rfl Tryz.ntmps46 rfl ?_
  have hS := St.start w0
  refine seq ?_
  refine region ?_
  refine sbox hS rfl rfl ?_; clear hS; intro b3 w hS
  refine sbox hS rfl rfl ?_; clear hS; intro b5 w hS
  refine sv (yAsg rfl) ?_
  refine nil ?_
  show Code.wp _ _ _ _ _
  refine seq ?_
  refine block ?_
  refine seq ?_
  refine region ?_
  refine sv (fa78_0 rfl) ?_
  refine sv (yLdB rfl Tryz.isAgg3 (hS.at _) rfl) ?_
  refine sv (fa26_2 rfl) ?_
  refine sv (yLdB rfl Tryz.isAgg24 (hS.at _) rfl) ?_
  refine sv (yLen rfl Tryz.underlying24) ?_
  refine sv (ySub rfl rfl ⟨by omega, by omega⟩) ?_
  refine scall Tryz.call45 (.cons rfl (.cons rfl (.cons rfl .nil))) c_out ?_
  rintro _ w ⟨rfl, hE⟩; replace hS := hS.step hE; clear hE
  refine sv (yAsg rfl) ?_
  refine nil ?_
  show Code.wp _ _ _ _ _
  refine cond rfl (fun c7 => ?_) (fun c7 => ?_)
  ·
    refine seq ?_
    refine region ?_
    refine sv (yAsg rfl) ?_
    refine nil ?_
    show Code.wp _ _ _ _ _
    refine wp_ret (blockR (thenR ?_))
    exact retV (res1 rfl (eqI (by unfold stepE; rw [if_pos (show outB x.kind 0 ((c.kinds.length : Int) - 1) = true from c7)]))) hS.ext
  ·
    refine seq ?_
    refine region ?_
    refine sv (fa78_1 rfl) ?_
    refine sv (yLdB rfl Tryz.isAgg3 (hS.at _) rfl) ?_
    refine scall Tryz.call45 (.cons rfl (.cons rfl (.cons rfl .nil))) c_out ?_
    rintro _ w ⟨rfl, hE⟩; replace hS := hS.step hE; clear hE
    refine sv (yAsg rfl) ?_
    refine nil ?_
    show Code.wp _ _ _ _ _
    refine cond rfl (fun c15 => ?_) (fun c15 => ?_)
    ·
      refine seq ?_
      refine region ?_
      refine sv (yAsg rfl) ?_
      refine nil ?_
      show Code.wp _ _ _ _ _
      refine wp_ret (blockR (thenR ?_))
      exact retV (res1 rfl (eqI (by unfold stepE; rw [if_neg (by rw [show outB x.kind 0 ((c.kinds.length : Int) - 1) = false from c7]; decide), if_pos (show outB x.subj 0 1000 = true from c15)]))) hS.ext
    ·
      refine seq ?_
      refine region ?_
      refine sv (fa78_2 rfl) ?_
      refine sv (yLdB rfl Tryz.isAgg3 (hS.at _) rfl) ?_
      refine sv (yMove rfl) ?_
      refine sv (ySub rfl rfl ⟨by omega, by omega⟩) ?_
      refine scall Tryz.call45 (.cons rfl (.cons rfl (.cons rfl .nil))) c_out ?_
      rintro _ w ⟨rfl, hE⟩; replace hS := hS.step hE; clear hE
      refine sv (yAsg rfl) ?_
      refine nil ?_
      show Code.wp _ _ _ _ _
      refine cond rfl (fun c19 => ?_) (fun c19 => ?_)
      ·
        refine seq ?_
        refine region ?_
        refine sv (yAsg rfl) ?_
        refine nil ?_
        show Code.wp _ _ _ _ _
        refine wp_ret (blockR (thenR ?_))
        exact retV (res1 rfl (eqI (by unfold stepE; rw [if_neg (by rw [show outB x.kind 0 ((c.kinds.length : Int) - 1) = false from c7]; decide), if_neg (by rw [show outB x.subj 0 1000 = false from c15]; decide), if_pos (show outB x.after (-1) ((i : Int) - 1) = true from c19)]))) hS.ext
      ·
        refine seq ?_
        refine region ?_
        refine sv (fa78_4 rfl) ?_
        refine sv (yLdB rfl Tryz.isAgg3 (hS.at _) rfl) ?_
        refine scall Tryz.call45 (.cons rfl (.cons rfl (.cons rfl .nil))) c_out ?_
        rintro _ w ⟨rfl, hE⟩; replace hS := hS.step hE; clear hE
        refine sv (yMove rfl) ?_
        refine sg rfl rfl rfl (fun g => (fa78_3 rfl)) (fun v30 g30 => ?_)
        refine sg rfl rfl rfl (fun g => (yLdB (g30.1 g) Tryz.isAgg3 (hS.at _) rfl)) (fun v31 g31 => ?_)
        refine sg rfl rfl rfl (fun g => (fa78_4 rfl)) (fun v32 g32 => ?_)
        refine sg rfl rfl rfl (fun g => (yLdB (g32.1 g) Tryz.isAgg3 (hS.at _) rfl)) (fun v33 g33 => ?_)
        refine sgc hS rfl rfl rfl Tryz.call45 (fun g => (.cons (g31.1 g) (.cons rfl (.cons (g33.1 g) .nil)))) (fun g => c_out) ?_; clear hS; intro v34 w hS g34
        refine sv (yOr rfl rfl (fun hB => (g34.1 hB))) ?_
        refine sv (yAsg rfl) ?_
        refine nil ?_
        show Code.wp _ _ _ _ _
        refine cond rfl (fun c25 => ?_) (fun c25 => ?_)
        ·
          refine seq ?_
          refine region ?_
          refine sv (yAsg rfl) ?_
          refine nil ?_
          show Code.wp _ _ _ _ _
          refine wp_ret (blockR (thenR ?_))
          exact retV (res1 rfl (eqI (by unfold stepE; rw [if_neg (by rw [show outB x.kind 0 ((c.kinds.length : Int) - 1) = false from c7]; decide), if_neg (by rw [show outB x.subj 0 1000 = false from c15]; decide), if_neg (by rw [show outB x.after (-1) ((i : Int) - 1) = false from c19]; decide), if_pos (show (outB x.most 0 240 || outB x.least 0 x.most) = true from c25)]))) hS.ext
        ·
          refine skip ?_
          show Code.wp _ _ _ _ _
          refine seq ?_
          refine region ?_
          refine sv (yAsg rfl) ?_
          refine nil ?_
          show Code.wp _ _ _ _ _
          refine wp_ret ?_
          exact retV (res1 rfl (eqI (by unfold stepE; rw [if_neg (by rw [show outB x.kind 0 ((c.kinds.length : Int) - 1) = false from c7]; decide), if_neg (by rw [show outB x.subj 0 1000 = false from c15]; decide), if_neg (by rw [show outB x.after (-1) ((i : Int) - 1) = false from c19]; decide), if_neg (by rw [show (outB x.most 0 240 || outB x.least 0 x.most) = false from c25]; decide)]))) hS.ext
set_option maxHeartbeats 1000000 in
/-- barrage/crew.CheckScript -/
theorem c_CheckScript {c : Crew} {cs ss : List Value} {s : Scr} {w0 : World} (h : RCrew w0 cs c) (hs : RScr w0 ss s) : CV Tryz.prog 24 #[.agg cs.toArray, .agg ss.toArray] w0 (.tuple #[.int .i64 (scriptF c s).1, .int .i64 (scriptF c s).2]) := by
  obtain ⟨ov, kv, nv, rfl, hso, hsk, hsn, hrm⟩ := id h
  obtain ⟨a, cap, rfl, hcap, hmx, hel⟩ := id hso
  obtain ⟨sv, rfl, hsz, hst⟩ := id hs
  obtain ⟨ax, cps, rfl, hscap, hsmx, hels⟩ := id hst
  refine enter Tryz.func24 rfl Tryz.ntmps24 rfl ?_
  have hS := St.start w0
  refine seq ?_
  refine region ?_
  refine sbox hS rfl rfl ?_; clear hS; intro b2 w hS
  refine sbox hS rfl rfl ?_; clear hS; intro b3 w hS
  refine sv (yAsg rfl) ?_
  refine sv (yAsg rfl) ?_
  refine nil ?_
  show Code.wp _ _ _ _ _
  refine seq ?_
  refine seq ?_
  refine region ?_
  refine sv (yLdBA rfl Tryz.isAgg26 Tryz.sizeOf26 (hS.at _) rfl rfl) ?_
  refine scall Tryz.call34 (.cons rfl .nil) (c_CheckC (h.ext hS.ext)) ?_
  rintro _ w ⟨rfl, hE⟩; replace hS := hS.step hE; clear hE
  refine sv (yMove rfl) ?_
  refine sv (yExt rfl rfl) ?_
  refine sv (yExt rfl rfl) ?_
  refine sv (yExt rfl rfl) ?_
  refine sv (yAsg rfl) ?_
  refine nil ?_
  show Code.wp _ _ _ _ _
  refine seq ?_
  refine region ?_
  refine sv (yMove rfl) ?_
  refine sv (yNeq rfl rfl) ?_
  refine nil ?_
  show Code.wp _ _ _ _ _
  refine cond rfl (fun c15 => ?_) (fun c15 => ?_)
  ·
    simp only [Bool.and_eq_true, Bool.or_eq_true, Bool.and_eq_false_iff, Bool.or_eq_false_iff, decide_eq_true_eq, decide_eq_false_iff_not, Bool.not_eq_true, Bool.not_eq_false, Bool.not_not, Bool.not_eq_eq_eq_not, Bool.not_true, Bool.not_false, Bool.false_eq_true, Bool.true_eq_false, ne_eq, Decidable.not_not, not_false_eq_true, not_true_eq_false] at c15
    refine seq ?_
    refine region ?_
    refine sv (yMove rfl) ?_
    refine sv (yAsg rfl) ?_
    refine sv (yAsg rfl) ?_
    refine nil ?_
    show Code.wp _ _ _ _ _
    refine wp_ret (thenR ?_)
    exact retV (res2 rfl (eqI (by rw [show scriptF c s = (-1, (checkC c).2.2) by unfold scriptF; rw [if_pos c15]])) (eqI (by rw [show scriptF c s = (-1, (checkC c).2.2) by unfold scriptF; rw [if_pos c15]]))) hS.ext
  ·
    simp only [Bool.and_eq_true, Bool.or_eq_true, Bool.and_eq_false_iff, Bool.or_eq_false_iff, decide_eq_true_eq, decide_eq_false_iff_not, Bool.not_eq_true, Bool.not_eq_false, Bool.not_not, Bool.not_eq_eq_eq_not, Bool.not_true, Bool.not_false, Bool.false_eq_true, Bool.true_eq_false, ne_eq, Decidable.not_not, not_false_eq_true, not_true_eq_false] at c15
    refine skip ?_
    show Code.wp _ _ _ _ _
    refine seq ?_
    refine block ?_
    refine seq ?_
    refine region ?_
    refine sv (fa45_0 rfl) ?_
    refine sv (yLdB rfl Tryz.isAgg9 (hS.at _) rfl) ?_
    refine scall Tryz.call44 (.cons rfl .nil) (c_Name hsz) ?_
    rintro _ w ⟨rfl, hE⟩; replace hS := hS.step hE; clear hE
    refine sv (yNot rfl) ?_
    refine sv (yAsg rfl) ?_
    refine nil ?_
    show Code.wp _ _ _ _ _
    refine cond rfl (fun c17 => ?_) (fun c17 => ?_)
    ·
      refine seq ?_
      refine region ?_
      refine sv (yAsg rfl) ?_
      refine sv (yAsg rfl) ?_
      refine nil ?_
      show Code.wp _ _ _ _ _
      refine wp_ret (blockR (thenR ?_))
      exact retV (res2 rfl (eqI (by rw [show scriptF c s = (-1, 6) by unfold scriptF; rw [if_neg (not_not_intro c15), if_pos c17]])) (eqI (by rw [show scriptF c s = (-1, 6) by unfold scriptF; rw [if_neg (not_not_intro c15), if_pos c17]]))) hS.ext
    ·
      refine seq ?_
      refine region ?_
      refine sv (fa45_1 rfl) ?_
      refine sv (yLdB rfl Tryz.isAgg43 (hS.at _) rfl) ?_
      refine sv (yLen rfl Tryz.underlying43) ?_
      refine scall Tryz.call45 (.cons rfl (.cons rfl (.cons rfl .nil))) c_out ?_
      rintro _ w ⟨rfl, hE⟩; replace hS := hS.step hE; clear hE
      refine sv (yAsg rfl) ?_
      refine nil ?_
      show Code.wp _ _ _ _ _
      refine cond rfl (fun c22 => ?_) (fun c22 => ?_)
      ·
        refine seq ?_
        refine region ?_
        refine sv (yAsg rfl) ?_
        refine sv (yAsg rfl) ?_
        refine nil ?_
        show Code.wp _ _ _ _ _
        refine wp_ret (blockR (thenR ?_))
        exact retV (res2 rfl (eqI (by rw [show scriptF c s = (-1, 3) by unfold scriptF; rw [if_neg (not_not_intro c15), if_neg (by rw [c17]; decide), if_pos c22]])) (eqI (by rw [show scriptF c s = (-1, 3) by unfold scriptF; rw [if_neg (not_not_intro c15), if_neg (by rw [c17]; decide), if_pos c22]]))) hS.ext
      ·
        refine skip ?_
        show Code.wp _ _ _ _ _
        refine seq ?_
        refine seq ?_
        refine region ?_
        refine sv (fa45_1 rfl) ?_
        refine sv (yLdB rfl Tryz.isAgg43 (hS.at _) rfl) ?_
        refine sv (yLen rfl Tryz.underlying43) ?_
        refine sv (yMove rfl) ?_
        refine nil ?_
        show Code.wp _ _ _ _ _
        refine block ?_
        have hle := outB_false.1 c22
        refine loop (fun f w zz => ∃ (k : Nat), f 2 = .pointer (some ⟨b2, 0, none⟩) ∧ f 3 = .pointer (some ⟨b3, 0, none⟩) ∧ f 28 = .slice ax s.steps.length cps ∧ f 29 = .int .i64 (s.steps.length : Int) ∧ f 30 = .int .i64 (k : Int) ∧ StX [] w0 w [blk b3 [.string s.name, .slice ax s.steps.length cps] 45, blk b2 [.slice a c.ops.length cap, kv, nv] 26] ∧ (k ≤ s.steps.length) ∧ (scriptF c s = firstS c (s.steps.drop k) k) ∧ zz = s.steps.length - k) _ ⟨_, rfl, 0, rfl, rfl, rfl, rfl, rfl, hS, (Nat.zero_le _), (by unfold scriptF; rw [if_neg (not_not_intro c15), if_neg (by rw [c17]; decide), if_neg (by rw [c22]; decide)]; rfl), rfl⟩ ?_
        clear hS
        rintro f w _ ⟨k, h2, h3, h28, h29, h30, hS, hk, hF, rfl⟩
        refine seq ?_
        refine region ?_
        refine sv (yLss h30 h29) ?_
        refine nil ?_
        show Code.wp _ _ _ _ _
        refine seq ?_
        refine cond rfl (fun c31 => ?_) (fun c31 => ?_)
        ·
          simp only [Bool.and_eq_true, Bool.or_eq_true, Bool.and_eq_false_iff, Bool.or_eq_false_iff, decide_eq_true_eq, decide_eq_false_iff_not, Bool.not_eq_true, Bool.not_eq_false, Bool.not_not, Bool.not_eq_eq_eq_not, Bool.not_true, Bool.not_false, Bool.false_eq_true, Bool.true_eq_false, ne_eq, Decidable.not_not, not_false_eq_true, not_true_eq_false] at c31
          refine skip ?_
          show Code.wp _ _ _ _ _
          refine seq ?_
          refine block ?_
          refine seq ?_
          refine region ?_
          refine sv (yMove h30) ?_
          obtain ⟨x, hxq, hdq⟩ := drop_of (l := s.steps) (k := k) (by omega)
          obtain ⟨bq, oq, csq, haq, hlenq, hcsq, hRq⟩ := hels (k) (by omega)
          obtain rfl : x = s.steps[k] := (List.getElem?_eq_some_iff.1 hxq).2.symm
          generalize s.steps[k] = x at hxq hdq hRq
          obtain ⟨rfl, hxi⟩ := hRq
          refine sv (yIxa h28 haq h30 Tryz.runUnderlying43 Tryz.sizeOf78 (by omega) (by omega)) ?_
          refine sv (yLdA rfl Tryz.isAgg78 Tryz.sizeOf78 (hcsq.ext hS.ext) rfl) ?_
          refine salloc hS Tryz.zeroValue78 rfl ?_; clear hS; intro b7 w hS
          refine sv (yAsg rfl) ?_
          refine sst hS rfl rfl Tryz.sizeOf78 rfl rfl rfl rfl ?_; clear hS; intro w hS
          refine nil ?_
          show Code.wp _ _ _ _ _
          refine seq ?_
          refine region ?_
          refine sv (yLdBA h2 Tryz.isAgg26 Tryz.sizeOf26 (hS.at _) rfl rfl) ?_
          refine sv (yMove rfl) ?_
          refine sv (yLdBA rfl Tryz.isAgg78 Tryz.sizeOf78 (hS.at _) rfl rfl) ?_
          refine scall Tryz.call46 (.cons rfl (.cons rfl (.cons rfl .nil))) (c_step (h.ext hS.ext) (by omega)) ?_
          rintro _ w ⟨rfl, hE⟩; replace hS := hS.step hE; clear hE
          refine sv (yAsg rfl) ?_
          refine nil ?_
          show Code.wp _ _ _ _ _
          refine seq ?_
          refine region ?_
          refine sv (yMove rfl) ?_
          refine sv (yNeq rfl rfl) ?_
          refine nil ?_
          show Code.wp _ _ _ _ _
          refine cond rfl (fun c40 => ?_) (fun c40 => ?_)
          ·
            simp only [Bool.and_eq_true, Bool.or_eq_true, Bool.and_eq_false_iff, Bool.or_eq_false_iff, decide_eq_true_eq, decide_eq_false_iff_not, Bool.not_eq_true, Bool.not_eq_false, Bool.not_not, Bool.not_eq_eq_eq_not, Bool.not_true, Bool.not_false, Bool.false_eq_true, Bool.true_eq_false, ne_eq, Decidable.not_not, not_false_eq_true, not_true_eq_false] at c40
            refine seq ?_
            refine region ?_
            refine sv (yMove rfl) ?_
            refine sv (yMove rfl) ?_
            refine sv (yAsg rfl) ?_
            refine sv (yAsg rfl) ?_
            refine nil ?_
            show Code.wp _ _ _ _ _
            refine wp_ret (blockR (thenR (thenR (blockR (thenR ?_)))))
            exact retV (res2 rfl (eqI (by rw [hF, firstS_hit hdq c40])) (eqI (by rw [hF, firstS_hit hdq c40]))) hS.ext
          ·
            simp only [Bool.and_eq_true, Bool.or_eq_true, Bool.and_eq_false_iff, Bool.or_eq_false_iff, decide_eq_true_eq, decide_eq_false_iff_not, Bool.not_eq_true, Bool.not_eq_false, Bool.not_not, Bool.not_eq_eq_eq_not, Bool.not_true, Bool.not_false, Bool.false_eq_true, Bool.true_eq_false, ne_eq, Decidable.not_not, not_false_eq_true, not_true_eq_false] at c40
            refine skip ?_
            show Code.wp _ _ _ _ _
            refine region ?_
            refine sv (yAdd h30 rfl ⟨by omega, by omega⟩) ?_
            refine sv (yMove rfl) ?_
            refine nil ?_
            exact ⟨_, _, rfl, ⟨k + 1, h2, h3, h28, h29, rfl, (hS.sub (.cons _ (List.Sublist.refl _))), (by omega), (by rw [hF, firstS_drop hdq c40]), rfl⟩, by omega⟩
        ·
          simp only [Bool.and_eq_true, Bool.or_eq_true, Bool.and_eq_false_iff, Bool.or_eq_false_iff, decide_eq_true_eq, decide_eq_false_iff_not, Bool.not_eq_true, Bool.not_eq_false, Bool.not_not, Bool.not_eq_eq_eq_not, Bool.not_true, Bool.not_false, Bool.false_eq_true, Bool.true_eq_false, ne_eq, Decidable.not_not, not_false_eq_true, not_true_eq_false] at c31
          refine exit ?_
          show Code.wp _ _ _ _ _
          refine seq ?_
          refine region ?_
          refine sv (yAsg rfl) ?_
          refine sv (yAsg rfl) ?_
          refine nil ?_
          show Code.wp _ _ _ _ _
          obtain rfl : k = s.steps.length := by omega
          refine wp_ret ?_
          exact retV (res2 rfl (eqI (by rw [hF, List.drop_length]; rfl)) (eqI (by rw [hF, List.drop_length]; rfl))) hS.ext
end Go.Proofs.YtghgnofilbnbaaaGreat

/- part C11 -/
namespace Go.Proofs.YtghgnofilbnbaaaGreat
open Go Bx
variable {w : World}
theorem eqIn105 {a0 b0 : Int} {a1 b1 : Int} : (Op.equalIn 10000 103 (.agg #[.int .i64 a0, .int .i64 a1]) (.agg #[.int .i64 b0, .int .i64 b1])).run Tryz.prog w = .ok (decide (a0 = b0) && decide (a1 = b1)) w := by
  have u3 := Tryz.underlying3
  have z3 := Tryz.sizeOf3
  have g3 := Tryz.isAgg3
  rw [show (10000 : Nat) = 9999 + 1 from rfl, run_equalIn_agg w 9999 103 _ _ (by kernel_rfl) (by kernel_rfl)]
  simp only [Program.fieldsOf, Tryz.underlying103]
  go_simp
  by_cases h0 : a0 = b0 <;> by_cases h1 : a1 = b1 <;> simp [h0, h1]
theorem chkSp (e : Bool) (p : Int × Int) (w : World) : (Instr.checkKey e 10000 103 (encSp p)).run Tryz.prog w = .ok () w := by
  have u3 := Tryz.underlying3
  have z3 := Tryz.sizeOf3
  have g3 := Tryz.isAgg3
  show (Instr.checkKey e (9999 + 1) 103 (encSp p)).run Tryz.prog w = _
  rw [Instr.checkKey]
  simp only [encSp, Sem.run_bind, run_underlying Tryz.underlying103, Result.andThen_ok]
  go_simp
  have hi : ∀ (a : Int) (w : World), (Instr.checkKey e 9999 3 (.int .i64 a)).run Tryz.prog w = .ok () w := fun a w => by
    show (Instr.checkKey e (9998 + 1) 3 (.int .i64 a)).run Tryz.prog w = _
    rw [Instr.checkKey]
    simp only [Sem.run_bind, run_underlying Tryz.underlying3, Result.andThen_ok]
    rfl
  simp only [hi, Result.andThen_ok]
theorem keySp : KeyFn Tryz.prog 103 encSp := by
  refine KeyFn.struct Tryz.underlying103 (fun a b w => ?_) chkSp (fun a => ?_)
  · show (Op.equalIn 10000 103 (encSp a) (encSp b)).run _ _ = _
    obtain ⟨a0, a1⟩ := a
    obtain ⟨b0, b1⟩ := b
    rw [encSp, encSp, eqIn105]
    by_cases h0 : a0 = b0 <;> by_cases h1 : a1 = b1 <;> simp [h0, h1]
  · simp [encSp, Instr.sameBits]
end Go.Proofs.YtghgnofilbnbaaaGreat

