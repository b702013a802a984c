/- Walks, part Wk1. -/
import Derived.Test.YtpgmehignepidaaP2
import Derived.Test.YtpgmehignepidaaTypes
set_option linter.all false
namespace Go.Proofs.Ytpgmehignepidaa
open Go Bx
/-- barrage/tide.out -/
theorem c_out {a lo hi : Int} {w0 : World} : CV Try.prog 54 #[.int .i64 a, .int .i64 lo, .int .i64 hi] w0 (.bool (outB a lo hi)) := by
  refine enter Try.func54 rfl Try.ntmps54 rfl ?_
  have hS := St.start w0
  refine seq ?_
  refine region ?_
  refine sv (yAsg rfl) ?_
  refine nil ?_
  show Code.wp _ _ _ _ _
  refine seq ?_
  refine region ?_
  refine sv (yMove rfl) ?_
  refine sv (yMove rfl) ?_
  refine sv (yLss rfl rfl) ?_
  refine sv (yMove rfl) ?_
  refine sg rfl rfl rfl (fun g => (yMove rfl)) (fun v11 g11 => ?_)
  refine sg rfl rfl rfl (fun g => (yMove rfl)) (fun v12 g12 => ?_)
  refine sg rfl rfl rfl (fun g => (yGtr (g11.1 g) (g12.1 g))) (fun v13 g13 => ?_)
  refine sv (yOr rfl rfl (fun hB => (g13.1 hB))) ?_
  refine sv (yAsg rfl) ?_
  refine nil ?_
  show Code.wp _ _ _ _ _
  refine wp_ret ?_
  exact retV (res1 rfl rfl) hS.ext
/-- barrage/barrageref01.in -/
theorem c_in {a lo hi : Int} {w0 : World} : CV Try.prog 63 #[.int .i64 a, .int .i64 lo, .int .i64 hi] w0 (.bool (inB a lo hi)) := by
  refine enter Try.func63 rfl Try.ntmps63 rfl ?_
  have hS := St.start w0
  refine seq ?_
  refine region ?_
  refine sv (yAsg rfl) ?_
  refine nil ?_
  show Code.wp _ _ _ _ _
  refine seq ?_
  refine region ?_
  refine sv (yMove rfl) ?_
  refine sv (yMove rfl) ?_
  refine sv (yGeq rfl rfl) ?_
  refine sv (yMove rfl) ?_
  refine sg rfl rfl rfl (fun g => (yMove rfl)) (fun v11 g11 => ?_)
  refine sg rfl rfl rfl (fun g => (yMove rfl)) (fun v12 g12 => ?_)
  refine sg rfl rfl rfl (fun g => (yLeq (g11.1 g) (g12.1 g))) (fun v13 g13 => ?_)
  refine sv (yAnd rfl (fun hB => (g13.1 hB)) rfl) ?_
  refine sv (yAsg rfl) ?_
  refine nil ?_
  show Code.wp _ _ _ _ _
  refine wp_ret ?_
  exact retV (res1 rfl rfl) hS.ext
/-- barrage/tide.Name -/
theorem c_Name {s : ByteArray} {w0 : World} (hs : s.size ≤ 9223372036854775807) : CV Try.prog 21 #[.string s] w0 (.bool (isName s)) := by
  refine enter Try.func21 rfl Try.ntmps21 rfl ?_
  have hS := St.start w0
  refine seq ?_
  refine region ?_
  refine sv (yAsg rfl) ?_
  refine nil ?_
  show Code.wp _ _ _ _ _
  refine seq ?_
  refine seq ?_
  refine region ?_
  refine sv (yMove rfl) ?_
  refine sv (yLenS rfl Try.underlying9) ?_
  refine sv (yMove rfl) ?_
  refine nil ?_
  show Code.wp _ _ _ _ _
  refine block ?_
  refine loop (fun f w m => ∃ (k : Nat), f 0 = .string s ∧ f 6 = .int .i64 (s.size : Int) ∧ f 7 = .int .i64 (k : Int) ∧ St w0 w [] ∧ (k ≤ s.size) ∧ (∀ i, i < k → okAt s i) ∧ m = s.size - k) _ ⟨_, rfl, 0, rfl, rfl, rfl, hS, (Nat.zero_le _), (fun i hi => absurd hi (Nat.not_lt_zero i)), rfl⟩ ?_
  clear hS
  rintro f w _ ⟨k, h0, h6, h7, hS, hk, hP, rfl⟩
  refine seq ?_
  refine region ?_
  refine sv (yLss h7 h6) ?_
  refine nil ?_
  show Code.wp _ _ _ _ _
  refine seq ?_
  refine cond rfl (fun c8 => ?_) (fun c8 => ?_)
  ·
    simp only [Bool.and_eq_true, Bool.or_eq_true, Bool.and_eq_false_iff, Bool.or_eq_false_iff, decide_eq_true_eq, decide_eq_false_iff_not, Bool.not_eq_true, Bool.not_eq_false, Bool.not_not, Bool.not_eq_eq_eq_not, Bool.not_true, Bool.not_false, Bool.false_eq_true, Bool.true_eq_false, ne_eq, Decidable.not_not, not_false_eq_true, not_true_eq_false] at c8
    refine skip ?_
    show Code.wp _ _ _ _ _
    refine seq ?_
    refine block ?_
    refine seq ?_
    refine region ?_
    refine sv (yMove h7) ?_
    refine sv (yAsg rfl) ?_
    refine nil ?_
    show Code.wp _ _ _ _ _
    refine seq ?_
    refine region ?_
    refine sv (yMove h0) ?_
    refine sv (yMove rfl) ?_
    refine sv (yIxS rfl rfl Try.underlying9 (getElem?_pos s k (by omega))) ?_
    refine sv (yAsg rfl) ?_
    refine nil ?_
    show Code.wp _ _ _ _ _
    refine block ?_
    refine seq ?_
    refine region ?_
    refine sv (yMove rfl) ?_
    refine sv (yLeq rfl rfl) ?_
    refine sv (yMove rfl) ?_
    refine sg rfl rfl rfl (fun g => (yMove rfl)) (fun v17 g17 => ?_)
    refine sg rfl rfl rfl (fun g => (yLeq (g17.1 g) rfl)) (fun v18 g18 => ?_)
    refine sv (yAnd rfl (fun hB => (g18.1 hB)) rfl) ?_
    refine sv (yAsg rfl) ?_
    refine nil ?_
    show Code.wp _ _ _ _ _
    refine cond rfl (fun c13 => ?_) (fun c13 => ?_)
    ·
      simp only [Bool.and_eq_true, Bool.or_eq_true, Bool.and_eq_false_iff, Bool.or_eq_false_iff, decide_eq_true_eq, decide_eq_false_iff_not, Bool.not_eq_true, Bool.not_eq_false, Bool.not_not, Bool.not_eq_eq_eq_not, Bool.not_true, Bool.not_false, Bool.false_eq_true, Bool.true_eq_false, ne_eq, Decidable.not_not, not_false_eq_true, not_true_eq_false] at c13
      refine skip ?_
      show Code.wp _ _ _ _ _
      refine region ?_
      refine sv (yAdd h7 rfl ⟨by omega, by omega⟩) ?_
      refine sv (yMove rfl) ?_
      refine nil ?_
      exact ⟨_, _, rfl, ⟨k + 1, h0, h6, rfl, hS, (by omega), (snoc hP ((okAt_of s k (by omega)).2 (by omega))), rfl⟩, by omega⟩
    ·
      simp only [Bool.and_eq_true, Bool.or_eq_true, Bool.and_eq_false_iff, Bool.or_eq_false_iff, decide_eq_true_eq, decide_eq_false_iff_not, Bool.not_eq_true, Bool.not_eq_false, Bool.not_not, Bool.not_eq_eq_eq_not, Bool.not_true, Bool.not_false, Bool.false_eq_true, Bool.true_eq_false, ne_eq, Decidable.not_not, not_false_eq_true, not_true_eq_false] at c13
      refine seq ?_
      refine region ?_
      refine sv (yMove rfl) ?_
      refine sv (yGtr rfl rfl) ?_
      refine sv (yMove rfl) ?_
      refine sg rfl rfl rfl (fun g => (yMove rfl)) (fun v24 g24 => ?_)
      refine sg rfl rfl rfl (fun g => (yEql (g24.1 g) rfl)) (fun v25 g25 => ?_)
      refine sg rfl rfl rfl (fun g => (yMove (g25.1 g))) (fun v26 g26 => ?_)
      refine sgg rfl rfl g26 (fun g => (yMove rfl)) (fun v27 g27 => ?_)
      refine sgg rfl rfl g26 (fun g => (yLeq rfl (g27.1 g))) (fun v28 g28 => ?_)
      refine sgg rfl rfl g26 (fun g => (yMove (g28.1 g))) (fun v29 g29 => ?_)
      refine sgg rfl rfl g29 (fun g => (yMove rfl)) (fun v30 g30 => ?_)
      refine sgg rfl rfl g29 (fun g => (yLeq (g30.1 g) rfl)) (fun v31 g31 => ?_)
      refine sgg rfl rfl g26 (fun g => (yAnd (g29.1 g) (fun hB => (g31.1 ⟨g, hB⟩)) rfl)) (fun v32 g32 => ?_)
      refine sg rfl rfl rfl (fun g => (yOr (g26.1 g) rfl (fun hB => (g32.1 ⟨g, hB⟩)))) (fun v33 g33 => ?_)
      refine sv (yAnd rfl (fun hB => (g33.1 hB)) rfl) ?_
      refine sv (yAsg rfl) ?_
      refine nil ?_
      show Code.wp _ _ _ _ _
      refine cond rfl (fun c20 => ?_) (fun c20 => ?_)
      ·
        simp only [Bool.and_eq_true, Bool.or_eq_true, Bool.and_eq_false_iff, Bool.or_eq_false_iff, decide_eq_true_eq, decide_eq_false_iff_not, Bool.not_eq_true, Bool.not_eq_false, Bool.not_not, Bool.not_eq_eq_eq_not, Bool.not_true, Bool.not_false, Bool.false_eq_true, Bool.true_eq_false, ne_eq, Decidable.not_not, not_false_eq_true, not_true_eq_false] at c20
        refine skip ?_
        show Code.wp _ _ _ _ _
        refine region ?_
        refine sv (yAdd h7 rfl ⟨by omega, by omega⟩) ?_
        refine sv (yMove rfl) ?_
        refine nil ?_
        exact ⟨_, _, rfl, ⟨k + 1, h0, h6, rfl, hS, (by omega), (snoc hP ((okAt_of s k (by omega)).2 (by omega))), rfl⟩, by omega⟩
      ·
        simp only [Bool.and_eq_true, Bool.or_eq_true, Bool.and_eq_false_iff, Bool.or_eq_false_iff, decide_eq_true_eq, decide_eq_false_iff_not, Bool.not_eq_true, Bool.not_eq_false, Bool.not_not, Bool.not_eq_eq_eq_not, Bool.not_true, Bool.not_false, Bool.false_eq_true, Bool.true_eq_false, ne_eq, Decidable.not_not, not_false_eq_true, not_true_eq_false] at c20
        refine seq ?_
        refine region ?_
        refine sv (yAsg rfl) ?_
        refine nil ?_
        show Code.wp _ _ _ _ _
        refine wp_ret (blockR (blockR (thenR (thenR (blockR (thenR ?_))))))
        exact retV (res1 rfl (by rw [isName_bad s k (by omega) (fun h => by have := (okAt_of s k (by omega)).1 h; omega)]; rfl)) hS.ext
  ·
    simp only [Bool.and_eq_true, Bool.or_eq_true, Bool.and_eq_false_iff, Bool.or_eq_false_iff, decide_eq_true_eq, decide_eq_false_iff_not, Bool.not_eq_true, Bool.not_eq_false, Bool.not_not, Bool.not_eq_eq_eq_not, Bool.not_true, Bool.not_false, Bool.false_eq_true, Bool.true_eq_false, ne_eq, Decidable.not_not, not_false_eq_true, not_true_eq_false] at c8
    refine exit ?_
    show Code.wp _ _ _ _ _
    refine seq ?_
    refine region ?_
    refine sv (yMove h0) ?_
    refine sv (ySNe rfl rfl) ?_
    refine sv (yMove rfl) ?_
    refine sg rfl rfl rfl (fun g => (yMove h0)) (fun v39 g39 => ?_)
    refine sg rfl rfl rfl (fun g => (yLenS (g39.1 g) Try.underlying9)) (fun v40 g40 => ?_)
    refine sg rfl rfl rfl (fun g => (yLeq (g40.1 g) rfl)) (fun v41 g41 => ?_)
    refine sv (yAnd rfl (fun hB => (g41.1 hB)) rfl) ?_
    refine sv (yAsg rfl) ?_
    refine nil ?_
    show Code.wp _ _ _ _ _
    refine wp_ret ?_
    exact retV (res1 rfl (by rw [isName_end s (fun i hi => hP i (by omega))]; rfl)) hS.ext
/-- barrage/tide.cycle -/
theorem c_cycle {v0 v2 v3 v5 : Value} {a : Option Addr} {len cap : Nat} {d : Int} {w0 : World} (hI : I64 (d * len)) : CV Try.prog 61 #[.agg #[v0, .slice a len cap, v2, v3, .int .i64 d, v5]] w0 (.int .i64 (d * len)) := by
  refine enter Try.func61 rfl Try.ntmps61 rfl ?_
  have hS := St.start w0
  refine seq ?_
  refine region ?_
  refine sbox hS rfl rfl ?_; clear hS; intro b1 w hS
  refine sv (yAsg rfl) ?_
  refine nil ?_
  show Code.wp _ _ _ _ _
  refine seq ?_
  refine region ?_
  refine sv (fa46_4 rfl) ?_
  refine sv (yLdB rfl Try.isAgg3 (hS.at _) rfl) ?_
  refine sv (fa46_1 rfl) ?_
  refine sv (yLdB rfl Try.isAgg44 (hS.at _) rfl) ?_
  refine sv (yLen rfl Try.underlying44) ?_
  refine sv (yMul rfl rfl hI) ?_
  refine sv (yAsg rfl) ?_
  refine nil ?_
  show Code.wp _ _ _ _ _
  refine wp_ret ?_
  exact retV (res1 rfl rfl) hS.ext
/-- slices.IndexFunc   int,int  -/
theorem c_IndexFuncInt {l : List Int} {p : Int → Bool} {v : Value} {g : Nat} {cl : List Value} {w0 : World} (hsl : Sl w0 1 RInt v l) (hcall : ∀ ys w, (callFunc g ys).run Try.prog w = .ok (.enter g ys) w) (hp : ∀ x cs w, x ∈ l → Ext w0 w → RInt w cs x → CV Try.prog g (.int .i64 x :: cl).toArray w (.bool (p x))) : CV Try.prog 97 #[v, .func (.func g) #[] cl.toArray] w0 (.int .i64 (idxF p l 0)) := by
  obtain ⟨a, cap, rfl, hcap, hmx, hel⟩ := hsl
  refine enter Try.func97 rfl Try.ntmps97 rfl ?_
  have hS := St.start w0
  refine seq ?_
  refine region ?_
  refine sv (yAsg rfl) ?_
  refine nil ?_
  show Code.wp _ _ _ _ _
  refine seq ?_
  refine seq ?_
  refine region ?_
  refine sv (yMove rfl) ?_
  refine sv (yLen rfl Try.underlying44) ?_
  refine sv (yMove rfl) ?_
  refine nil ?_
  show Code.wp _ _ _ _ _
  refine block ?_
  refine loop (fun f w m => ∃ (k : Nat), f 0 = .slice a l.length cap ∧ f 1 = .func (.func g) #[] cl.toArray ∧ f 7 = .int .i64 (l.length : Int) ∧ f 8 = .int .i64 (k : Int) ∧ St w0 w [] ∧ (k ≤ l.length) ∧ (idxF p l 0 = idxF p (l.drop k) k) ∧ m = l.length - k) _ ⟨_, rfl, 0, rfl, rfl, rfl, rfl, hS, (Nat.zero_le _), (rfl), rfl⟩ ?_
  clear hS
  rintro f w _ ⟨k, h0, h1, h7, h8, hS, hk, hI, rfl⟩
  refine seq ?_
  refine region ?_
  refine sv (yLss h8 h7) ?_
  refine nil ?_
  show Code.wp _ _ _ _ _
  refine seq ?_
  refine cond rfl (fun c9 => ?_) (fun c9 => ?_)
  ·
    simp only [Bool.and_eq_true, Bool.or_eq_true, Bool.and_eq_false_iff, Bool.or_eq_false_iff, decide_eq_true_eq, decide_eq_false_iff_not, Bool.not_eq_true, Bool.not_eq_false, Bool.not_not, Bool.not_eq_eq_eq_not, Bool.not_true, Bool.not_false, Bool.false_eq_true, Bool.true_eq_false, ne_eq, Decidable.not_not, not_false_eq_true, not_true_eq_false] at c9
    refine skip ?_
    show Code.wp _ _ _ _ _
    refine seq ?_
    refine block ?_
    refine seq ?_
    refine region ?_
    refine sv (yMove h8) ?_
    refine sv (yAsg rfl) ?_
    refine nil ?_
    show Code.wp _ _ _ _ _
    refine seq ?_
    refine region ?_
    obtain ⟨x, hx, hd⟩ := drop_of (l := l) (k := k) (by omega)
    obtain ⟨b, o, cs, ha, hlen, hcs, hR⟩ := hel k (by omega)
    obtain rfl : x = l[k] := (List.getElem?_eq_some_iff.1 hx).2.symm
    obtain ⟨rfl, hi64⟩ := hR
    have hR : RInt w0 [.int .i64 l[k]] l[k] := ⟨rfl, hi64⟩
    refine sv (yMove h1) ?_
    refine sv (yMove h0) ?_
    refine sv (yMove rfl) ?_
    refine sv (yIxa rfl ha rfl Try.runUnderlying44 Try.sizeOf3 (by omega) (by omega)) ?_
    refine sv (yLd rfl Try.isAgg3 (hcs.ext hS.ext).one) ?_
    refine scallf rfl hcall (.cons rfl .nil) (hp _ _ _ (List.getElem_mem _) hS.ext hR) ?_
    rintro _ w ⟨rfl, hE⟩; replace hS := hS.step hE; clear hE
    refine nil ?_
    show Code.wp _ _ _ _ _
    refine cond rfl (fun c16 => ?_) (fun c16 => ?_)
    ·
      refine seq ?_
      refine region ?_
      refine sv (yMove rfl) ?_
      refine sv (yAsg rfl) ?_
      refine nil ?_
      show Code.wp _ _ _ _ _
      refine wp_ret (blockR (thenR (thenR (blockR (thenR ?_)))))
      exact retV (res1 rfl (by rw [hI, hd, idxF, if_pos c16]; rfl)) hS.ext
    ·
      refine skip ?_
      show Code.wp _ _ _ _ _
      refine region ?_
      refine sv (yAdd h8 rfl ⟨by omega, by omega⟩) ?_
      refine sv (yMove rfl) ?_
      refine nil ?_
      exact ⟨_, _, rfl, ⟨k + 1, h0, h1, h7, rfl, hS, (by omega), (by rw [hI, hd, idxF, if_neg (by simp [c16])]; rfl), rfl⟩, by omega⟩
  ·
    simp only [Bool.and_eq_true, Bool.or_eq_true, Bool.and_eq_false_iff, Bool.or_eq_false_iff, decide_eq_true_eq, decide_eq_false_iff_not, Bool.not_eq_true, Bool.not_eq_false, Bool.not_not, Bool.not_eq_eq_eq_not, Bool.not_true, Bool.not_false, Bool.false_eq_true, Bool.true_eq_false, ne_eq, Decidable.not_not, not_false_eq_true, not_true_eq_false] at c9
    refine exit ?_
    show Code.wp _ _ _ _ _
    refine seq ?_
    refine region ?_
    refine sv (yAsg rfl) ?_
    refine nil ?_
    show Code.wp _ _ _ _ _
    obtain rfl : k = l.length := by omega
    refine wp_ret ?_
    exact retV (res1 rfl (by rw [hI, List.drop_length]; rfl)) hS.ext
/-- slices.ContainsFunc   int,int  -/
theorem c_ContainsFuncInt {l : List Int} {p : Int → Bool} {v : Value} {g : Nat} {cl : List Value} {w0 : World} (hsl : Sl w0 1 RInt v l) (hcall : ∀ ys w, (callFunc g ys).run Try.prog w = .ok (.enter g ys) w) (hp : ∀ x cs w, x ∈ l → Ext w0 w → RInt w cs x → CV Try.prog g (.int .i64 x :: cl).toArray w (.bool (p x))) : CV Try.prog 62 #[v, .func (.func g) #[] cl.toArray] w0 (.bool (l.any p)) := by
  refine enter Try.func62 rfl Try.ntmps62 rfl ?_
  have hS := St.start w0
  refine seq ?_
  refine region ?_
  refine sv (yAsg rfl) ?_
  refine nil ?_
  show Code.wp _ _ _ _ _
  refine seq ?_
  refine region ?_
  refine sv (yMove rfl) ?_
  refine sv (yMove rfl) ?_
  refine scall Try.call97 (.cons rfl (.cons rfl .nil)) (c_IndexFuncInt hsl hcall hp) ?_
  rintro _ w ⟨rfl, hE⟩; replace hS := hS.step hE; clear hE
  refine sv (yGeq rfl rfl) ?_
  refine sv (yAsg rfl) ?_
  refine nil ?_
  show Code.wp _ _ _ _ _
  refine wp_ret ?_
  exact retV (res1 rfl (by rw [← idxF_any p l 0 (Int.le_refl 0)]; rfl)) hS.ext
/-- barrage/tide.first -/
theorem c_first {rs : List Rule} {b : Nat} {T : TypeId} {w0 : World} (hb : w0.heap[b]? = some (.cells (rs.flatMap rcells).toArray T (0, 0))) (hR : RulesOk Try.prog w0 rs) (hl : rs.length ≤ 1000) {e : Int} (he : firstE rs = e) : CV Try.prog 52 #[.slice (some ⟨b, 0, none⟩) rs.length rs.length] w0 (.int .i64 e) := by
  refine enter Try.func52 rfl Try.ntmps52 rfl ?_
  have hS := St.start w0
  refine seq ?_
  refine region ?_
  refine sv (yAsg rfl) ?_
  refine nil ?_
  show Code.wp _ _ _ _ _
  refine seq ?_
  refine seq ?_
  refine region ?_
  refine sv (yMove rfl) ?_
  refine sv (yLen rfl Try.underlying133) ?_
  refine sv (yMove rfl) ?_
  refine nil ?_
  show Code.wp _ _ _ _ _
  refine block ?_
  refine loop (fun f w m => ∃ (k : Nat), f 5 = .slice (some ⟨b, 0, none⟩) rs.length rs.length ∧ f 6 = .int .i64 (rs.length : Int) ∧ f 7 = .int .i64 (k : Int) ∧ St w0 w [] ∧ (k ≤ rs.length) ∧ (RulesOk Try.prog w0 (rs.drop k)) ∧ (e = firstE (rs.drop k)) ∧ m = rs.length - k) _ ⟨_, rfl, 0, rfl, rfl, rfl, hS, (Nat.zero_le _), (hR), (he.symm), rfl⟩ ?_
  clear hS
  rintro f w _ ⟨k, h5, h6, h7, hS, hk, hR, hE, rfl⟩
  refine seq ?_
  refine region ?_
  refine sv (yLss h7 h6) ?_
  refine nil ?_
  show Code.wp _ _ _ _ _
  refine seq ?_
  refine cond rfl (fun c8 => ?_) (fun c8 => ?_)
  ·
    simp only [Bool.and_eq_true, Bool.or_eq_true, Bool.and_eq_false_iff, Bool.or_eq_false_iff, decide_eq_true_eq, decide_eq_false_iff_not, Bool.not_eq_true, Bool.not_eq_false, Bool.not_not, Bool.not_eq_eq_eq_not, Bool.not_true, Bool.not_false, Bool.false_eq_true, Bool.true_eq_false, ne_eq, Decidable.not_not, not_false_eq_true, not_true_eq_false] at c8
    refine skip ?_
    show Code.wp _ _ _ _ _
    refine seq ?_
    refine block ?_
    refine seq ?_
    refine region ?_
    obtain ⟨r, hr, hd⟩ := drop_of (l := rs) (k := k) (by omega)
    rw [hd] at hR
    obtain ⟨hcall, hv, hn⟩ := hR
    refine sv (yIx h5 h7 Try.runUnderlying133 Try.sizeOf96 (by omega) (by omega)) ?_
    refine sv (yLdA rfl Try.isAgg96 Try.sizeOf96 ((flat_cells rcells_len (blk_cells hb) hr).ext hS.ext) rfl) ?_
    refine salloc hS Try.zeroValue96 rfl ?_; clear hS; intro b4 w hS
    refine sst hS rfl rfl Try.sizeOf96 rfl rfl rfl rfl ?_; clear hS; intro w hS
    refine nil ?_
    show Code.wp _ _ _ _ _
    refine seq ?_
    refine region ?_
    refine sv (fa96_0 rfl) ?_
    refine sv (yLdB rfl Try.isAgg29 (hS.at _) rfl) ?_
    refine scallf rfl hcall .nil (hv _ hS.ext) ?_
    rintro _ w ⟨rfl, hE⟩; replace hS := hS.step hE; clear hE
    refine nil ?_
    show Code.wp _ _ _ _ _
    refine cond rfl (fun c13 => ?_) (fun c13 => ?_)
    ·
      refine seq ?_
      refine region ?_
      refine sv (fa96_1 rfl) ?_
      refine sv (yLdB rfl Try.isAgg25 (hS.at _) rfl) ?_
      refine sv (yAsg rfl) ?_
      refine nil ?_
      show Code.wp _ _ _ _ _
      refine wp_ret (blockR (thenR (thenR (blockR (thenR ?_)))))
      exact retV (res1 rfl (by rw [hE, hd, firstE, if_pos c13]; rfl)) hS.ext
    ·
      refine skip ?_
      show Code.wp _ _ _ _ _
      refine region ?_
      refine sv (yAdd h7 rfl ⟨by omega, by omega⟩) ?_
      refine sv (yMove rfl) ?_
      refine nil ?_
      exact ⟨_, _, rfl, ⟨k + 1, h5, h6, rfl, (hS.sub (List.nil_sublist _)), (by omega), (hn c13), (by rw [hE, hd, firstE, if_neg (by simp [c13])]), rfl⟩, by omega⟩
  ·
    simp only [Bool.and_eq_true, Bool.or_eq_true, Bool.and_eq_false_iff, Bool.or_eq_false_iff, decide_eq_true_eq, decide_eq_false_iff_not, Bool.not_eq_true, Bool.not_eq_false, Bool.not_not, Bool.not_eq_eq_eq_not, Bool.not_true, Bool.not_false, Bool.false_eq_true, Bool.true_eq_false, ne_eq, Decidable.not_not, not_false_eq_true, not_true_eq_false] at c8
    refine exit ?_
    show Code.wp _ _ _ _ _
    refine seq ?_
    refine region ?_
    refine sv (yAsg rfl) ?_
    refine nil ?_
    show Code.wp _ _ _ _ _
    obtain rfl : k = rs.length := by omega
    refine wp_ret ?_
    exact retV (res1 rfl (by rw [hE, List.drop_length]; rfl)) hS.ext
/-- barrage/tide.Check closure 1 -/
theorem c_Check1 {b : Nat} {T : TypeId} {m : Int} {cv : Value} {w0 : World} (hb : w0.heap[b]? = some (.cells [.int .i64 m, cv].toArray T (0, 0))) : CV Try.prog 53 #[.pointer (some ⟨b, 0, none⟩)] w0 (.bool (outB m (-20000) 20000)) := by
  refine enter Try.func53 rfl Try.ntmps53 rfl ?_
  have hS := St.start w0
  refine seq ?_
  refine region ?_
  refine sv (yAsg rfl) ?_
  refine nil ?_
  show Code.wp _ _ _ _ _
  refine seq ?_
  refine region ?_
  refine sv (fa24_0 rfl) ?_
  refine sv (yLdB rfl Try.isAgg3 (hS.ext.get hb) rfl) ?_
  refine scall Try.call54 (.cons rfl (.cons rfl (.cons rfl .nil))) c_out ?_
  rintro _ w ⟨rfl, hE⟩; replace hS := hS.step hE; clear hE
  refine sv (yAsg rfl) ?_
  refine nil ?_
  show Code.wp _ _ _ _ _
  refine wp_ret ?_
  exact retV (res1 rfl rfl) hS.ext
/-- barrage/tide.Check closure 2 -/
theorem c_Check2 {b : Nat} {T : TypeId} {m : Int} {a : Option Addr} {l cap : Nat} {w0 : World} (hb : w0.heap[b]? = some (.cells [.int .i64 m, .slice a l cap].toArray T (0, 0))) : CV Try.prog 55 #[.pointer (some ⟨b, 0, none⟩)] w0 (.bool (decide ((12 : Int) < l))) := by
  refine enter Try.func55 rfl Try.ntmps55 rfl ?_
  have hS := St.start w0
  refine seq ?_
  refine region ?_
  refine sv (yAsg rfl) ?_
  refine nil ?_
  show Code.wp _ _ _ _ _
  refine seq ?_
  refine region ?_
  refine sv (fa24_1 rfl) ?_
  refine sv (yLdB rfl Try.isAgg22 (hS.ext.get hb) rfl) ?_
  refine sv (yLen rfl Try.underlying22) ?_
  refine sv (yGtr rfl rfl) ?_
  refine sv (yAsg rfl) ?_
  refine nil ?_
  show Code.wp _ _ _ _ _
  refine wp_ret ?_
  exact retV (res1 rfl rfl) hS.ext
/-- barrage/tide.Check closure 3 -/
theorem c_Check3 {h : Int} {w0 : World} : CV Try.prog 56 #[.int .i64 h] w0 (.bool (outB h (-10000) 10000)) := by
  refine enter Try.func56 rfl Try.ntmps56 rfl ?_
  have hS := St.start w0
  refine seq ?_
  refine region ?_
  refine sv (yAsg rfl) ?_
  refine nil ?_
  show Code.wp _ _ _ _ _
  refine seq ?_
  refine region ?_
  refine sv (yMove rfl) ?_
  refine scall Try.call54 (.cons rfl (.cons rfl (.cons rfl .nil))) c_out ?_
  rintro _ w ⟨rfl, hE⟩; replace hS := hS.step hE; clear hE
  refine sv (yAsg rfl) ?_
  refine nil ?_
  show Code.wp _ _ _ _ _
  refine wp_ret ?_
  exact retV (res1 rfl rfl) hS.ext
/-- barrage/tide.Check closure 4 -/
theorem c_Check4 {b : Nat} {T : TypeId} {c : Const} {a : Option Addr} {cap : Nat} {w0 : World} (hb : w0.heap[b]? = some (.cells [.string c.name, .slice a c.heights.length cap, .int .i64 c.off, .int .i64 c.step, .int .i64 c.den, .int .i64 c.slack].toArray T (0, 0))) (hs : c.name.size ≤ 9223372036854775807) : CV Try.prog 57 #[.pointer (some ⟨b, 0, none⟩)] w0 (.bool (!isName c.name)) := by
  refine enter Try.func57 rfl Try.ntmps57 rfl ?_
  have hS := St.start w0
  refine seq ?_
  refine region ?_
  refine sv (yAsg rfl) ?_
  refine nil ?_
  show Code.wp _ _ _ _ _
  refine seq ?_
  refine region ?_
  refine sv (fa46_0 rfl) ?_
  refine sv (yLdB rfl Try.isAgg9 (hS.ext.get hb) rfl) ?_
  refine scall Try.call21 (.cons rfl .nil) (c_Name hs) ?_
  rintro _ w ⟨rfl, hE⟩; replace hS := hS.step hE; clear hE
  refine sv (yNot rfl) ?_
  refine sv (yAsg rfl) ?_
  refine nil ?_
  show Code.wp _ _ _ _ _
  refine wp_ret ?_
  exact retV (res1 rfl rfl) hS.ext
/-- barrage/tide.Check closure 5 -/
theorem c_Check5 {b b2 bm : Nat} {T T2 : TypeId} {c : Const} {a : Option Addr} {cap : Nat} {seen : List ByteArray} {w0 : World} (hb : w0.heap[b]? = some (.cells [.string c.name, .slice a c.heights.length cap, .int .i64 c.off, .int .i64 c.step, .int .i64 c.den, .int .i64 c.slack].toArray T (0, 0))) (h2 : w0.heap[b2]? = some (.cells [.map (some bm)].toArray T2 (0, 0))) (hm : ∃ o, w0.heap[bm]? = some o ∧ MapOk Value.string (seenM seen) o) : CV Try.prog 58 #[.pointer (some ⟨b2, 0, none⟩), .pointer (some ⟨b, 0, none⟩)] w0 (.bool (memB c.name seen)) := by
  refine enter Try.func58 rfl Try.ntmps58 rfl ?_
  have hS := St.start w0
  refine seq ?_
  refine region ?_
  refine sv (yAsg rfl) ?_
  refine nil ?_
  show Code.wp _ _ _ _ _
  refine seq ?_
  refine region ?_
  refine sv (yLdB rfl Try.isAgg97 (hS.ext.get h2) rfl) ?_
  refine sv (fa46_0 rfl) ?_
  refine sv (yLdB rfl Try.isAgg9 (hS.ext.get hb) rfl) ?_
  refine sv (yLook Value.string rfl rfl Try.runUnderlying97 (keyStr Try.underlying9) Try.zeroValue4 (by obtain ⟨o, h1, h2⟩ := hm; exact ⟨o, hS.ext.get h1, h2⟩) (getM_seen _ _)) ?_
  refine sv (yAsg rfl) ?_
  refine nil ?_
  show Code.wp _ _ _ _ _
  refine wp_ret ?_
  exact retV (res1 rfl rfl) hS.ext
/-- barrage/tide.Check closure 6 -/
theorem c_Check6 {b : Nat} {T : TypeId} {c : Const} {a : Option Addr} {cap : Nat} {w0 : World} (hb : w0.heap[b]? = some (.cells [.string c.name, .slice a c.heights.length cap, .int .i64 c.off, .int .i64 c.step, .int .i64 c.den, .int .i64 c.slack].toArray T (0, 0))) : CV Try.prog 59 #[.pointer (some ⟨b, 0, none⟩)] w0 (.bool (outB c.heights.length 2 48)) := by
  refine enter Try.func59 rfl Try.ntmps59 rfl ?_
  have hS := St.start w0
  refine seq ?_
  refine region ?_
  refine sv (yAsg rfl) ?_
  refine nil ?_
  show Code.wp _ _ _ _ _
  refine seq ?_
  refine region ?_
  refine sv (fa46_1 rfl) ?_
  refine sv (yLdB rfl Try.isAgg44 (hS.ext.get hb) rfl) ?_
  refine sv (yLen rfl Try.underlying44) ?_
  refine scall Try.call54 (.cons rfl (.cons rfl (.cons rfl .nil))) c_out ?_
  rintro _ w ⟨rfl, hE⟩; replace hS := hS.step hE; clear hE
  refine sv (yAsg rfl) ?_
  refine nil ?_
  show Code.wp _ _ _ _ _
  refine wp_ret ?_
  exact retV (res1 rfl rfl) hS.ext
/-- barrage/tide.Check closure 7 -/
theorem c_Check7 {b2 : Nat} {T2 : TypeId} {b : Nat} {T : TypeId} {c : Const} {a : Option Addr} {cap : Nat} {w0 : World} (hb : w0.heap[b]? = some (.cells [.string c.name, .slice a c.heights.length cap, .int .i64 c.off, .int .i64 c.step, .int .i64 c.den, .int .i64 c.slack].toArray T (0, 0))) (h2 : w0.heap[b2]? = some (.cells [.func (.func 56) #[] #[]].toArray T2 (0, 0))) (hl : (c.heights.length : Int) ≤ 48) (hsl : Sl w0 1 RInt (.slice a c.heights.length cap) c.heights) : CV Try.prog 60 #[.pointer (some ⟨b, 0, none⟩), .pointer (some ⟨b2, 0, none⟩)] w0 (.bool (numsB c)) := by
  refine enter Try.func60 rfl Try.ntmps60 rfl ?_
  have hS := St.start w0
  refine seq ?_
  refine region ?_
  refine sv (yAsg rfl) ?_
  refine nil ?_
  show Code.wp _ _ _ _ _
  refine seq ?_
  refine region_draw mixed (by kernel_rfl) hS ?_
  refine qv (fun w hS => (fa46_4 rfl)) ?_
  refine qv (fun w hS => (yLdB rfl Try.isAgg3 (hS.ext.get hb) rfl)) ?_
  refine qcall Try.call54 (.cons rfl (.cons rfl (.cons rfl .nil))) (fun w hS => c_out) ?_
  refine qv (fun w hS => (yMove rfl)) ?_
  refine qg rfl rfl rfl (fun g w hS => (fa46_3 rfl)) (fun v7 g7 => ?_)
  refine qg rfl rfl rfl (fun g w hS => (yLdB (g7.1 g) Try.isAgg3 (hS.ext.get hb) rfl)) (fun v8 g8 => ?_)
  refine qgc rfl rfl rfl Try.call54 (fun g => (.cons (g8.1 g) (.cons rfl (.cons rfl .nil)))) (fun g w hS => c_out) (fun v9 g9 => ?_)
  refine qv (fun w hS => (yOr rfl rfl (fun hB => (g9.1 hB)))) ?_
  refine qv (fun w hS => (yMove rfl)) ?_
  refine qg rfl rfl rfl (fun g w hS => (fa46_5 rfl)) (fun v12 g12 => ?_)
  refine qg rfl rfl rfl (fun g w hS => (yLdB (g12.1 g) Try.isAgg3 (hS.ext.get hb) rfl)) (fun v13 g13 => ?_)
  refine qgc rfl rfl rfl Try.call54 (fun g => (.cons (g13.1 g) (.cons rfl (.cons rfl .nil)))) (fun g w hS => c_out) (fun v14 g14 => ?_)
  refine qv (fun w hS => (yOr rfl rfl (fun hB => (g14.1 hB)))) ?_
  refine qv (fun w hS => (yMove rfl)) ?_
  refine qg rfl rfl rfl (fun g w hS => (fa46_2 rfl)) (fun v17 g17 => ?_)
  refine qg rfl rfl rfl (fun g w hS => (yLdB (g17.1 g) Try.isAgg3 (hS.ext.get hb) rfl)) (fun v18 g18 => ?_)
  refine qg rfl rfl rfl (fun g w hS => (yLdBA rfl Try.isAgg46 Try.sizeOf46 (hS.ext.get hb) rfl rfl)) (fun v19 g19 => ?_)
  refine qgc rfl rfl rfl Try.call61 (fun g => (.cons (g19.1 g) .nil)) (fun g w hS => (c_cycle (by have := (cyc_bd (d := c.den) (by simp only [Bool.or_eq_false_iff, outB_false] at g; omega) (by simp only [Bool.or_eq_false_iff, outB_false] at g; omega) hl); exact ⟨by omega, by omega⟩))) (fun v20 g20 => ?_)
  refine qg rfl rfl rfl (fun g w hS => (ySub (g20.1 g) rfl (by have := (cyc_bd (d := c.den) (by simp only [Bool.or_eq_false_iff, outB_false] at g; omega) (by simp only [Bool.or_eq_false_iff, outB_false] at g; omega) hl); exact ⟨by omega, by omega⟩))) (fun v21 g21 => ?_)
  refine qgc rfl rfl rfl Try.call54 (fun g => (.cons (g18.1 g) (.cons rfl (.cons (g21.1 g) .nil)))) (fun g w hS => c_out) (fun v22 g22 => ?_)
  refine qv (fun w hS => (yOr rfl rfl (fun hB => (g22.1 hB)))) ?_
  refine qv (fun w hS => (yMove rfl)) ?_
  refine qg rfl rfl rfl (fun g w hS => (fa46_1 rfl)) (fun v25 g25 => ?_)
  refine qg rfl rfl rfl (fun g w hS => (yLdB (g25.1 g) Try.isAgg44 (hS.ext.get hb) rfl)) (fun v26 g26 => ?_)
  refine qg rfl rfl rfl (fun g w hS => (yLdB rfl Try.isAgg98 (hS.ext.get h2) rfl)) (fun v27 g27 => ?_)
  refine qgc rfl rfl rfl Try.call62 (fun g => (.cons (g26.1 g) (.cons (g27.1 g) .nil))) (fun g w hS => (c_ContainsFuncInt (cl := []) (hsl.ext RInt.stays hS.ext) Try.call56 (fun x cs w _ _ _ => c_Check3))) (fun v28 g28 => ?_)
  refine qv (fun w hS => (yOr rfl rfl (fun hB => (g28.1 hB)))) ?_
  refine qv (fun w hS => (yAsg rfl)) ?_
  clear hS; refine qnil (fun w hS => ?_)
  show Code.wp _ _ _ _ _
  refine wp_ret ?_
  exact retV (res1 rfl rfl) hS.ext
set_option maxHeartbeats 1000000 in
/-- barrage/tide.Check -/
theorem c_Check {t : Table} {cs : List Value} {w0 : World} (ht : RTable w0 cs t) : CV Try.prog 19 #[.agg cs.toArray] w0 (.tuple #[.int .i64 (checkT t).1, .int .i64 (checkT t).2]) := by
  obtain ⟨cv, rfl, hmean, a, cap, rfl, hcap, hmx, hel⟩ := ht
  refine enter Try.func19 rfl Try.ntmps19 rfl ?_
  have hS := St.start w0
  refine seq ?_
  refine region ?_
  refine sbox hS rfl rfl ?_; clear hS; intro b1 w hS
  refine sv (yAsg rfl) ?_
  refine sv (yAsg rfl) ?_
  refine nil ?_
  show Code.wp _ _ _ _ _
  refine seq ?_
  refine region ?_
  refine sv (yFn (.cons rfl .nil)) ?_
  refine sv (yBuild Try.zeroValue96 rfl pl96 (.cons rfl rfl (.cons rfl rfl .nil)) rfl) ?_
  refine sv (yFn (.cons rfl .nil)) ?_
  refine sv (yBuild Try.zeroValue96 rfl pl96 (.cons rfl rfl (.cons rfl rfl .nil)) rfl) ?_
  refine sbslice hS Try.underlying133 Try.sizeOf96 rfl Try.zeroValue96 rfl (.cons rfl rfl (.cons rfl rfl .nil)) rfl ?_; clear hS; intro b13 w hS
  refine scall Try.call52 (.cons rfl .nil) (c_first (rs := [⟨53, [.pointer (some ⟨b1, 0, none⟩)], 7, outB t.mean (-20000) 20000⟩, ⟨55, [.pointer (some ⟨b1, 0, none⟩)], 3, decide ((12 : Int) < t.consts.length)⟩]) (hS.at _) ⟨Try.call53, fun w e => c_Check1 (e.get (hS.at _)), fun _ => ⟨Try.call55, fun w e => c_Check2 (e.get (hS.at _)), fun _ => trivial⟩⟩ (Nat.le_of_ble_eq_true rfl) (tErr_eq t _ _ _ _)) ?_
  rintro _ w ⟨rfl, hE⟩; replace hS := hS.step hE; clear hE
  refine sv (yAsg rfl) ?_
  refine nil ?_
  show Code.wp _ _ _ _ _
  refine seq ?_
  refine seq ?_
  refine region ?_
  refine sv (yMove rfl) ?_
  refine sv (yNeq rfl rfl) ?_
  refine nil ?_
  show Code.wp _ _ _ _ _
  refine cond rfl (fun c16 => ?_) (fun c16 => ?_)
  ·
    simp only [Bool.and_eq_true, Bool.or_eq_true, Bool.and_eq_false_iff, Bool.or_eq_false_iff, decide_eq_true_eq, decide_eq_false_iff_not, Bool.not_eq_true, Bool.not_eq_false, Bool.not_not, Bool.not_eq_eq_eq_not, Bool.not_true, Bool.not_false, Bool.false_eq_true, Bool.true_eq_false, ne_eq, Decidable.not_not, not_false_eq_true, not_true_eq_false] at c16
    refine seq ?_
    refine region ?_
    refine sv (yMove rfl) ?_
    refine sv (yAsg rfl) ?_
    refine sv (yAsg rfl) ?_
    refine nil ?_
    show Code.wp _ _ _ _ _
    refine wp_ret (thenR ?_)
    exact retV (res2 rfl (fstI (checkT_bad c16)) (sndI (checkT_bad c16))) hS.ext
  ·
    simp only [Bool.and_eq_true, Bool.or_eq_true, Bool.and_eq_false_iff, Bool.or_eq_false_iff, decide_eq_true_eq, decide_eq_false_iff_not, Bool.not_eq_true, Bool.not_eq_false, Bool.not_not, Bool.not_eq_eq_eq_not, Bool.not_true, Bool.not_false, Bool.false_eq_true, Bool.true_eq_false, ne_eq, Decidable.not_not, not_false_eq_true, not_true_eq_false] at c16
    obtain ⟨hgood, hlen⟩ := checkT_good c16
    refine skip ?_
    show Code.wp _ _ _ _ _
    refine seq ?_
    refine region ?_
    refine smkmap Value.string hS ?_; clear hS; intro b18 w hS
    refine salloc hS Try.zeroValue97 rfl ?_; clear hS; intro b4 w hS
    refine sst hS rfl rfl Try.sizeOf97 rfl rfl rfl rfl ?_; clear hS; intro w hS
    refine nil ?_
    show Code.wp _ _ _ _ _
    refine seq ?_
    refine seq ?_
    refine region ?_
    refine sv (fa24_1 rfl) ?_
    refine sv (yLdB rfl Try.isAgg22 (hS.at _) rfl) ?_
    refine sv (yLen rfl Try.underlying22) ?_
    refine sv (yMove rfl) ?_
    refine nil ?_
    show Code.wp _ _ _ _ _
    refine block ?_
    refine loop (fun f w m => ∃ (k : Nat), f 4 = .pointer (some ⟨b4, 0, none⟩) ∧ f 20 = .slice a t.consts.length cap ∧ f 21 = .int .i64 (t.consts.length : Int) ∧ f 22 = .int .i64 (k : Int) ∧ St w0 w [blk b4 [.map (some b18)] 97, mapI b18 Value.string (seenM ((t.consts.take k).map (·.name)))] ∧ (k ≤ t.consts.length) ∧ (checkT t = checkL (t.consts.drop k) ((t.consts.take k).map (·.name)) k) ∧ m = t.consts.length - k) _ ⟨_, rfl, 0, rfl, rfl, rfl, rfl, (hS.sub (.cons_cons _ (.cons_cons _ (List.nil_sublist _)))), (Nat.zero_le _), (hgood), rfl⟩ ?_
    clear hS
    rintro f w _ ⟨k, h4, h20, h21, h22, hS, hk, hI, rfl⟩
    refine seq ?_
    refine region ?_
    refine sv (yLss h22 h21) ?_
    refine nil ?_
    show Code.wp _ _ _ _ _
    refine seq ?_
    refine cond rfl (fun c23 => ?_) (fun c23 => ?_)
    ·
      simp only [Bool.and_eq_true, Bool.or_eq_true, Bool.and_eq_false_iff, Bool.or_eq_false_iff, decide_eq_true_eq, decide_eq_false_iff_not, Bool.not_eq_true, Bool.not_eq_false, Bool.not_not, Bool.not_eq_eq_eq_not, Bool.not_true, Bool.not_false, Bool.false_eq_true, Bool.true_eq_false, ne_eq, Decidable.not_not, not_false_eq_true, not_true_eq_false] at c23
      refine skip ?_
      show Code.wp _ _ _ _ _
      refine seq ?_
      refine block ?_
      refine seq ?_
      refine region ?_
      obtain ⟨c, hx, hd⟩ := drop_of (l := t.consts) (k := k) (by omega)
      obtain ⟨b, o, cs, ha, hlen, hcs, hR⟩ := hel k (by omega)
      obtain rfl : c = t.consts[k] := (List.getElem?_eq_some_iff.1 hx).2.symm
      generalize t.consts[k] = c at hx hd hR
      obtain ⟨hv, rfl, hn1, hsl1, _, _, _, _⟩ := hR
      obtain ⟨a1, cap1, rfl, hq1, hq2, hq3⟩ := id hsl1
      refine sv (yMove h22) ?_
      refine sv (yIxa h20 ha h22 Try.runUnderlying22 Try.sizeOf46 (by omega) (by omega)) ?_
      refine sv (yLdA rfl Try.isAgg46 Try.sizeOf46 (hcs.ext hS.ext) rfl) ?_
      refine salloc hS Try.zeroValue46 rfl ?_; clear hS; intro b6 w hS
      refine sv (yAsg rfl) ?_
      refine sst hS rfl rfl Try.sizeOf46 rfl rfl rfl rfl ?_; clear hS; intro w hS
      refine nil ?_
      show Code.wp _ _ _ _ _
      refine seq ?_
      refine region ?_
      refine salloc hS Try.zeroValue98 rfl ?_; clear hS; intro b7 w hS
      refine sst hS rfl rfl Try.sizeOf98 rfl rfl rfl rfl ?_; clear hS; intro w hS
      refine nil ?_
      show Code.wp _ _ _ _ _
      refine seq ?_
      refine region ?_
      refine sv (yFn (.cons rfl .nil)) ?_
      refine sv (yBuild Try.zeroValue96 rfl pl96 (.cons rfl rfl (.cons rfl rfl .nil)) rfl) ?_
      refine sv (yFn (.cons h4 (.cons rfl .nil))) ?_
      refine sv (yBuild Try.zeroValue96 rfl pl96 (.cons rfl rfl (.cons rfl rfl .nil)) rfl) ?_
      refine sv (yFn (.cons rfl .nil)) ?_
      refine sv (yBuild Try.zeroValue96 rfl pl96 (.cons rfl rfl (.cons rfl rfl .nil)) rfl) ?_
      refine sv (yFn (.cons rfl (.cons rfl .nil))) ?_
      refine sv (yBuild Try.zeroValue96 rfl pl96 (.cons rfl rfl (.cons rfl rfl .nil)) rfl) ?_
      refine sbslice hS Try.underlying133 Try.sizeOf96 rfl Try.zeroValue96 rfl (.cons rfl rfl (.cons rfl rfl (.cons rfl rfl (.cons rfl rfl .nil)))) rfl ?_; clear hS; intro b35 w hS
      refine scall Try.call52 (.cons rfl .nil) (c_first (rs := [⟨57, [.pointer (some ⟨b6, 0, none⟩)], 6, !isName c.name⟩, ⟨58, [.pointer (some ⟨b4, 0, none⟩), .pointer (some ⟨b6, 0, none⟩)], 5, memB c.name ((t.consts.take k).map (·.name))⟩, ⟨59, [.pointer (some ⟨b6, 0, none⟩)], 3, outB c.heights.length 2 48⟩, ⟨60, [.pointer (some ⟨b6, 0, none⟩), .pointer (some ⟨b7, 0, none⟩)], 7, numsB c⟩]) (hS.at _) ⟨Try.call57, fun w e => c_Check4 (e.get (hS.at b6)) hn1, fun _ => ⟨Try.call58, fun w e => c_Check5 (e.get (hS.at b6)) (e.get (hS.at b4)) (by obtain ⟨o, h1, h2⟩ := hS.is b18; exact ⟨o, e.get h1, h2⟩), fun _ => ⟨Try.call59, fun w e => c_Check6 (e.get (hS.at b6)), fun h6 => ⟨Try.call60, fun w e => c_Check7 (e.get (hS.at b6)) (e.get (hS.at b7)) (outB_false.1 h6).2 (hsl1.ext RInt.stays (hS.ext.trans e)), fun _ => trivial⟩⟩⟩⟩ (Nat.le_of_ble_eq_true rfl) (cErr_eq _ c _ _ _ _ _ _ _ _)) ?_
      rintro _ w ⟨rfl, hE⟩; replace hS := hS.step hE; clear hE
      refine sv (yAsg rfl) ?_
      refine nil ?_
      show Code.wp _ _ _ _ _
      refine seq ?_
      refine seq ?_
      refine region ?_
      refine sv (yMove rfl) ?_
      refine sv (yNeq rfl rfl) ?_
      refine nil ?_
      show Code.wp _ _ _ _ _
      refine cond rfl (fun c38 => ?_) (fun c38 => ?_)
      ·
        simp only [Bool.and_eq_true, Bool.or_eq_true, Bool.and_eq_false_iff, Bool.or_eq_false_iff, decide_eq_true_eq, decide_eq_false_iff_not, Bool.not_eq_true, Bool.not_eq_false, Bool.not_not, Bool.not_eq_eq_eq_not, Bool.not_true, Bool.not_false, Bool.false_eq_true, Bool.true_eq_false, ne_eq, Decidable.not_not, not_false_eq_true, not_true_eq_false] at c38
        refine seq ?_
        refine region ?_
        refine sv (yMove rfl) ?_
        refine sv (yMove rfl) ?_
        refine sv (yAsg rfl) ?_
        refine sv (yAsg rfl) ?_
        refine nil ?_
        show Code.wp _ _ _ _ _
        have hfin : checkT t = ((k : Int), cErr ((t.consts.take k).map (·.name)) c) := by rw [hI, hd, checkL, if_pos c38]
        refine wp_ret (thenR (blockR (thenR (thenR (blockR (thenR ?_))))))
        exact retV (res2 rfl (fstI hfin) (sndI hfin)) hS.ext
      ·
        simp only [Bool.and_eq_true, Bool.or_eq_true, Bool.and_eq_false_iff, Bool.or_eq_false_iff, decide_eq_true_eq, decide_eq_false_iff_not, Bool.not_eq_true, Bool.not_eq_false, Bool.not_not, Bool.not_eq_eq_eq_not, Bool.not_true, Bool.not_false, Bool.false_eq_true, Bool.true_eq_false, ne_eq, Decidable.not_not, not_false_eq_true, not_true_eq_false] at c38
        refine skip ?_
        show Code.wp _ _ _ _ _
        refine region ?_
        refine sv (yLdB h4 Try.isAgg97 (hS.at _) rfl) ?_
        refine sv (fa46_0 rfl) ?_
        refine sv (yLdB rfl Try.isAgg9 (hS.at _) rfl) ?_
        refine smapset Value.string hS rfl rfl rfl Try.runUnderlying97 (keyStr Try.underlying9) ?_; clear hS; intro w hS
        refine nil ?_
        show Code.wp _ _ _ _ _
        refine region ?_
        refine sv (yAdd h22 rfl ⟨by omega, by omega⟩) ?_
        refine sv (yMove rfl) ?_
        refine nil ?_
        exact ⟨_, _, rfl, ⟨k + 1, h4, h20, h21, rfl, (by rw [take_names hx, ← setM_seen _ _ (cErr_seen c38)]; exact hS.sub (.cons _ (.cons _ (.cons _ (List.Sublist.refl _))))), (by omega), (by rw [hI, hd, checkL, if_neg (fun h => h c38), take_names hx]; rfl), rfl⟩, by omega⟩
    ·
      simp only [Bool.and_eq_true, Bool.or_eq_true, Bool.and_eq_false_iff, Bool.or_eq_false_iff, decide_eq_true_eq, decide_eq_false_iff_not, Bool.not_eq_true, Bool.not_eq_false, Bool.not_not, Bool.not_eq_eq_eq_not, Bool.not_true, Bool.not_false, Bool.false_eq_true, Bool.true_eq_false, ne_eq, Decidable.not_not, not_false_eq_true, not_true_eq_false] at c23
      refine exit ?_
      show Code.wp _ _ _ _ _
      refine seq ?_
      refine region ?_
      refine sv (yAsg rfl) ?_
      refine sv (yAsg rfl) ?_
      refine nil ?_
      show Code.wp _ _ _ _ _
      obtain rfl : k = t.consts.length := by omega
      have hfin : checkT t = (0, 0) := by rw [hI, List.drop_length]; rfl
      refine wp_ret ?_
      exact retV (res2 rfl (fstI hfin) (sndI hfin)) hS.ext
end Go.Proofs.Ytpgmehignepidaa
