/- Merged texts, part 5. -/
import Derived.Test.YtghgnofilbnbaaaQ4
import Derived.SizedLaws
import Derived.Test.YtghgnofilbnbaaaProg
set_option linter.all false
/- part Ck42 -/
namespace Go.Proofs.Ytghgnofilbnbaaa
open Go Bx
/-- slices.IndexFunc   barrage/api.CrOrder,barrage/api.CrOrder  -/
theorem c_IndexOrd {l : List Bx.Ord} {p : Bx.Ord → Bool} {v : Value} {g : Nat} {cl : List Value} {w0 : World} (hsl : Sl w0 5 ROrd v l) (hcall : ∀ ys w, (callFunc g ys).run Try.prog w = .ok (.enter g ys) w) (hp : ∀ x w, x ∈ l → Ext w0 w → CV Try.prog g (.agg (ordC x).toArray :: cl).toArray w (.bool (p x))) : CV Try.prog 76 #[v, .func (.func g) #[] cl.toArray] w0 (.int .i64 (idxF p l 0)) := by
  obtain ⟨a, cap, rfl, hcap, hmx, hel⟩ := hsl
  refine enter Try.func76 rfl Try.ntmps76 rfl ?_
  have hS := St.start w0
  refine seq ?_
  refine region ?_
  refine sv (yAsg rfl) ?_
  refine nil ?_
  show Code.wp _ _ _ _ _
  refine seq ?_
  refine seq ?_
  refine region ?_
  refine sv (yMove rfl) ?_
  refine sv (yLen rfl Try.underlying46) ?_
  refine sv (yMove rfl) ?_
  refine nil ?_
  show Code.wp _ _ _ _ _
  refine block ?_
  refine loop (fun f w zz => ∃ (k : Nat), f 0 = .slice a l.length cap ∧ f 1 = .func (.func g) #[] cl.toArray ∧ f 7 = .int .i64 (l.length : Int) ∧ f 8 = .int .i64 (k : Int) ∧ StX [] w0 w [] ∧ (k ≤ l.length) ∧ (idxF p l 0 = idxF p (l.drop k) k) ∧ zz = l.length - k) _ ⟨_, rfl, 0, rfl, rfl, rfl, rfl, hS, (Nat.zero_le _), (rfl), rfl⟩ ?_
  clear hS
  rintro f w _ ⟨k, h0, h1, h7, h8, hS, hk, hI, rfl⟩
  refine seq ?_
  refine region ?_
  refine sv (yLss h8 h7) ?_
  refine nil ?_
  show Code.wp _ _ _ _ _
  refine seq ?_
  refine cond rfl (fun c9 => ?_) (fun c9 => ?_)
  ·
    simp only [Bool.and_eq_true, Bool.or_eq_true, Bool.and_eq_false_iff, Bool.or_eq_false_iff, decide_eq_true_eq, decide_eq_false_iff_not, Bool.not_eq_true, Bool.not_eq_false, Bool.not_not, Bool.not_eq_eq_eq_not, Bool.not_true, Bool.not_false, Bool.false_eq_true, Bool.true_eq_false, ne_eq, Decidable.not_not, not_false_eq_true, not_true_eq_false] at c9
    refine skip ?_
    show Code.wp _ _ _ _ _
    refine seq ?_
    refine block ?_
    refine seq ?_
    refine region ?_
    refine sv (yMove h8) ?_
    refine sv (yAsg rfl) ?_
    refine nil ?_
    show Code.wp _ _ _ _ _
    refine seq ?_
    refine region ?_
    obtain ⟨x, hx, hd⟩ := drop_of (l := l) (k := k) (by omega)
    obtain ⟨b, o, cs, ha, hlen, hcs, hR⟩ := hel k (by omega)
    obtain rfl : x = l[k] := (List.getElem?_eq_some_iff.1 hx).2.symm
    obtain ⟨rfl, -⟩ := hR
    refine sv (yMove h1) ?_
    refine sv (yMove h0) ?_
    refine sv (yMove rfl) ?_
    refine sv (yIxa rfl ha rfl Try.runUnderlying46 Try.sizeOf55 (by omega) (by omega)) ?_
    refine sv (yLdA rfl Try.isAgg55 Try.sizeOf55 (hcs.ext hS.ext) rfl) ?_
    refine scallf rfl hcall (.cons rfl .nil) (hp _ _ (List.getElem_mem _) hS.ext) ?_
    rintro _ w ⟨rfl, hE⟩; replace hS := hS.step hE; clear hE
    refine nil ?_
    show Code.wp _ _ _ _ _
    refine cond rfl (fun c16 => ?_) (fun c16 => ?_)
    ·
      refine seq ?_
      refine region ?_
      refine sv (yMove rfl) ?_
      refine sv (yAsg rfl) ?_
      refine nil ?_
      show Code.wp _ _ _ _ _
      refine wp_ret (blockR (thenR (thenR (blockR (thenR ?_)))))
      exact retV (res1 rfl (by rw [hI, hd, idxF, if_pos c16]; rfl)) hS.ext
    ·
      refine skip ?_
      show Code.wp _ _ _ _ _
      refine region ?_
      refine sv (yAdd h8 rfl ⟨by omega, by omega⟩) ?_
      refine sv (yMove rfl) ?_
      refine nil ?_
      exact ⟨_, _, rfl, ⟨k + 1, h0, h1, h7, rfl, hS, (by omega), (by rw [hI, hd, idxF, if_neg (by simp [c16])]; rfl), rfl⟩, by omega⟩
  ·
    simp only [Bool.and_eq_true, Bool.or_eq_true, Bool.and_eq_false_iff, Bool.or_eq_false_iff, decide_eq_true_eq, decide_eq_false_iff_not, Bool.not_eq_true, Bool.not_eq_false, Bool.not_not, Bool.not_eq_eq_eq_not, Bool.not_true, Bool.not_false, Bool.false_eq_true, Bool.true_eq_false, ne_eq, Decidable.not_not, not_false_eq_true, not_true_eq_false] at c9
    refine exit ?_
    show Code.wp _ _ _ _ _
    refine seq ?_
    refine region ?_
    refine sv (yAsg rfl) ?_
    refine nil ?_
    show Code.wp _ _ _ _ _
    obtain rfl : k = l.length := by omega
    refine wp_ret ?_
    exact retV (res1 rfl (by rw [hI, List.drop_length]; rfl)) hS.ext
set_option maxHeartbeats 2000000 in
/-- slices.DeleteFunc   barrage/api.CrOrder,barrage/api.CrOrder  -/
theorem c_DeleteOrd {l : List Bx.Ord} {p : Bx.Ord → Bool} {a : Option Addr} {cap g : Nat} {cl : List Value} {w0 : World} (hr : w0.ownsRow 0 55 5 (.slice a l.length cap) l.length (l.flatMap ordC)) (hcall : ∀ ys w, (callFunc g ys).run Try.prog w = .ok (.enter g ys) w) (hp : ∀ x w, x ∈ l → ExtX (Value.slice a l.length cap).ownBlock.toList w0 w → CV Try.prog g (.agg (ordC x).toArray :: cl).toArray w (.bool (p x))) (hlen : l.length ≤ 1000) : CE Try.prog 74 #[.slice a l.length cap, .func (.func g) #[] cl.toArray] w0 (fun u w' => u = .slice a (l.filter fun x => !p x).length cap ∧ StX (Value.slice a l.length cap).ownBlock.toList w0 w' [rowI (.slice a (l.filter fun x => !p x).length cap) 55 5 (l.filter fun x => !p x).length ((l.filter fun x => !p x).flatMap ordC)]) := by
  refine enter Try.func74 rfl Try.ntmps74 rfl ?_
  have hS := StX.startR hr
  refine seq ?_
  refine region ?_
  refine sv (yAsg rfl) ?_
  refine nil ?_
  show Code.wp _ _ _ _ _
  refine seq ?_
  refine region ?_
  refine sv (yMove rfl) ?_
  refine sv (yMove rfl) ?_
  refine scall Try.call76 (.cons rfl (.cons rfl .nil)) (c_IndexOrd (sl_ords (hS.row (.slice a l.length cap)) rfl) hcall (fun x w hx e => hp x w hx (hS.extx.trans e))) ?_
  rintro _ w ⟨rfl, hE⟩; replace hS := hS.step hE; clear hE
  have hix := idxF_spec p l 0 (Int.le_refl 0)
  generalize idxF p l 0 = ix at hix ⊢
  refine sv (yAsg rfl) ?_
  refine nil ?_
  show Code.wp _ _ _ _ _
  refine seq ?_
  refine seq ?_
  refine region ?_
  refine sv (yMove rfl) ?_
  refine sv (yEql rfl rfl) ?_
  refine nil ?_
  show Code.wp _ _ _ _ _
  refine cond rfl (fun c12 => ?_) (fun c12 => ?_)
  ·
    simp only [Bool.and_eq_true, Bool.or_eq_true, Bool.and_eq_false_iff, Bool.or_eq_false_iff, decide_eq_true_eq, decide_eq_false_iff_not, Bool.not_eq_true, Bool.not_eq_false, Bool.not_not, Bool.not_eq_eq_eq_not, Bool.not_true, Bool.not_false, Bool.false_eq_true, Bool.true_eq_false, ne_eq, Decidable.not_not, not_false_eq_true, not_true_eq_false] at c12
    have hfl : (l.filter fun x => !p x) = l := by
      rcases hix with ⟨-, h⟩ | ⟨k, -, h, -⟩
      · exact h
      · omega
    refine seq ?_
    refine region ?_
    refine sv (yMove rfl) ?_
    refine sv (yAsg rfl) ?_
    refine nil ?_
    show Code.wp _ _ _ _ _
    refine wp_ret (thenR ?_)
    refine retQ (res1 rfl rfl) ?_
    rw [hfl]
    exact ⟨rfl, hS⟩
  ·
    simp only [Bool.and_eq_true, Bool.or_eq_true, Bool.and_eq_false_iff, Bool.or_eq_false_iff, decide_eq_true_eq, decide_eq_false_iff_not, Bool.not_eq_true, Bool.not_eq_false, Bool.not_not, Bool.not_eq_eq_eq_not, Bool.not_true, Bool.not_false, Bool.false_eq_true, Bool.true_eq_false, ne_eq, Decidable.not_not, not_false_eq_true, not_true_eq_false] at c12
    obtain ⟨i0, hi0, hie, hi1, z, hz, hpz⟩ := hix.resolve_left (fun h => c12 h.1)
    obtain ⟨gb, rfl, -⟩ := row_get (hS.row (.slice a l.length cap)) (by omega)
    obtain rfl : ix = (i0 : Int) := by omega
    have hcap : l.length ≤ cap := by
      obtain ⟨g2, c2, e2, h2, -⟩ := row_some (hS.row (.slice (some ⟨gb, 0, none⟩) l.length cap)) (by omega)
      obtain ⟨-, rfl⟩ := slice_inj e2
      exact h2
    refine skip ?_
    show Code.wp _ _ _ _ _
    refine seq ?_
    refine seq ?_
    refine region ?_
    refine sv (yMove rfl) ?_
    refine sv (yAdd rfl rfl ⟨by omega, by omega⟩) ?_
    refine sv (yAsg rfl) ?_
    refine nil ?_
    show Code.wp _ _ _ _ _
    refine block ?_
    have htl : (l.take i0).length = i0 := by simp; omega
    refine loop (fun f w zz => ∃ (ks js : LOrd) (j : Nat), f 0 = .slice (some ⟨gb, 0, none⟩) l.length cap ∧ f 1 = .func (.func g) #[] cl.toArray ∧ f 5 = .int .i64 (ks.length : Int) ∧ f 6 = .int .i64 (j : Int) ∧ StX (Value.slice (some ⟨gb, 0, none⟩) l.length cap).ownBlock.toList w0 w ([rowI (.slice (some ⟨gb, 0, none⟩) l.length cap) 55 5 l.length ((ks ++ js ++ l.drop j).flatMap ordC)]) ∧ (j ≤ l.length) ∧ (ks.length + js.length = j) ∧ (js ≠ []) ∧ ((l.filter fun x => !p x) = ks ++ (l.drop j).filter fun x => !p x) ∧ zz = l.length - j) _ ⟨_, rfl, l.take i0, [z], i0 + 1, rfl, rfl, (by rw [htl]; exact rfl), rfl, (by rw [cut_at hz]; exact hS), (by omega), (by rw [htl]; rfl), (by simp), (filter_at hz hi1 hpz), rfl⟩ ?_
    clear hS
    rintro f w _ ⟨ks, js, j, h0, h1, h5, h6, hS, hj, hl, hne, hI, rfl⟩
    refine seq ?_
    refine seq ?_
    refine region ?_
    refine sv (yMove h6) ?_
    refine sv (yMove h0) ?_
    refine sv (yLen rfl Try.underlying46) ?_
    refine sv (yLss rfl rfl) ?_
    refine nil ?_
    show Code.wp _ _ _ _ _
    refine cond rfl (fun c19 => ?_) (fun c19 => ?_)
    ·
      simp only [Bool.and_eq_true, Bool.or_eq_true, Bool.and_eq_false_iff, Bool.or_eq_false_iff, decide_eq_true_eq, decide_eq_false_iff_not, Bool.not_eq_true, Bool.not_eq_false, Bool.not_not, Bool.not_eq_eq_eq_not, Bool.not_true, Bool.not_false, Bool.false_eq_true, Bool.true_eq_false, ne_eq, Decidable.not_not, not_false_eq_true, not_true_eq_false] at c19
      obtain ⟨x, hx, hd⟩ := drop_of (l := l) (k := j) (by omega)
      refine skip ?_
      show Code.wp _ _ _ _ _
      refine seq ?_
      refine block ?_
      refine seq ?_
      refine region ?_
      refine sv (yMove h0) ?_
      refine sv (yMove h6) ?_
      refine sv (yIx0 rfl rfl Try.runUnderlying46 Try.sizeOf55 (by omega)) ?_
      refine sv (yLdA rfl Try.isAgg55 Try.sizeOf55 (flat_cells0 ordC_len (row_at (hS.row (.slice (some ⟨gb, 0, none⟩) l.length cap)) rfl (by omega)) (mid_get hl hx)) rfl) ?_
      refine salloc hS Try.zeroValue55 rfl ?_; clear hS; intro b7 w hS
      refine sst hS rfl rfl Try.sizeOf55 rfl rfl rfl rfl ?_; clear hS; intro w hS
      refine nil ?_
      show Code.wp _ _ _ _ _
      refine seq ?_
      refine region ?_
      refine sv (yMove h1) ?_
      refine sv (yLdBA rfl Try.isAgg55 Try.sizeOf55 (hS.at _) rfl rfl) ?_
      refine scallf rfl hcall (.cons rfl .nil) (hp x _ (List.mem_of_getElem? hx) hS.extx) ?_
      rintro _ w ⟨rfl, hE⟩; replace hS := hS.step hE; clear hE
      refine sv (yNot rfl) ?_
      refine nil ?_
      show Code.wp _ _ _ _ _
      refine cond rfl (fun c29 => ?_) (fun c29 => ?_)
      ·
        simp only [Bool.not_eq_true', Bool.not_eq_false', Bool.not_eq_true, Bool.not_eq_false] at c29
        refine seq ?_
        refine region ?_
        refine sv (yMove h0) ?_
        refine sv (yMove h5) ?_
        refine sv (yLdBA rfl Try.isAgg55 Try.sizeOf55 (hS.at _) rfl rfl) ?_
        refine sv (yIx0 rfl rfl Try.runUnderlying46 Try.sizeOf55 (by have := List.length_pos_iff.2 hne; omega)) ?_
        refine srst (m := l.length) (cap := cap) (sz := 5) (vs := ordC x) hS rfl rfl Try.sizeOf55 rfl rfl (by have := List.length_pos_iff.2 hne; omega) rfl ?_; clear hS; intro w hS
        refine nil ?_
        show Code.wp _ _ _ _ _
        refine region ?_
        refine sv (yMove h5) ?_
        refine sv (yAdd rfl rfl ⟨by omega, by omega⟩) ?_
        refine sv (yAsg rfl) ?_
        refine nil ?_
        show Code.wp _ _ _ _ _
        refine region ?_
        refine sv (yMove h6) ?_
        refine sv (yAdd rfl rfl ⟨by omega, by omega⟩) ?_
        refine sv (yAsg rfl) ?_
        refine nil ?_
        exact ⟨_, _, rfl, ⟨ks ++ [x], js.tail ++ [x], j + 1, h0, h1, (by rw [List.length_append]; exact rfl), rfl, (by rw [gap_outG ordC_len hx hne]; exact hS.sub (.cons _ (List.Sublist.refl _))), (by omega), (by simp; have := List.length_pos_iff.2 hne; omega), (by simp), (by rw [hI, hd, List.filter_cons_of_pos (by simpa using c29)]; simp), rfl⟩, by omega⟩
      ·
        simp only [Bool.not_eq_true', Bool.not_eq_false', Bool.not_eq_true, Bool.not_eq_false] at c29
        refine skip ?_
        show Code.wp _ _ _ _ _
        refine region ?_
        refine sv (yMove h6) ?_
        refine sv (yAdd rfl rfl ⟨by omega, by omega⟩) ?_
        refine sv (yAsg rfl) ?_
        refine nil ?_
        exact ⟨_, _, rfl, ⟨ks, js ++ [x], j + 1, h0, h1, h5, rfl, (by rw [gap_in hx]; exact hS.sub (.cons _ (List.Sublist.refl _))), (by omega), (by simp; omega), (by simp), (by rw [hI, hd, List.filter_cons_of_neg (by simp [c29])]), rfl⟩, by omega⟩
    ·
      simp only [Bool.and_eq_true, Bool.or_eq_true, Bool.and_eq_false_iff, Bool.or_eq_false_iff, decide_eq_true_eq, decide_eq_false_iff_not, Bool.not_eq_true, Bool.not_eq_false, Bool.not_not, Bool.not_eq_eq_eq_not, Bool.not_true, Bool.not_false, Bool.false_eq_true, Bool.true_eq_false, ne_eq, Decidable.not_not, not_false_eq_true, not_true_eq_false] at c19
      obtain rfl : j = l.length := by omega
      rw [List.drop_length] at hI
      have hfin : (l.filter fun x => !p x) = ks := by rw [hI]; simp
      refine exit ?_
      show Code.wp _ _ _ _ _
      refine seq ?_
      refine region ?_
      refine sv (yMove h0) ?_
      refine sv (yMove h5) ?_
      refine sv (yTail rfl rfl Try.underlying46 Try.sizeOf55 (by omega)) ?_
      refine sclear (i := ks.length) (m := l.length) hS rfl Try.underlying46 Try.zeroValue55 rfl (by decide) (by decide) (by omega) ?_; clear hS; intro w hS
      refine nil ?_
      show Code.wp _ _ _ _ _
      refine seq ?_
      refine region ?_
      refine sv (yMove h0) ?_
      refine sv (yMove h5) ?_
      refine sv (yHead ⟨_, rfl⟩ rfl rfl Try.underlying46 Try.sizeOf55 (by omega)) ?_
      refine sv (yAsg rfl) ?_
      refine nil ?_
      show Code.wp _ _ _ _ _
      refine wp_ret ?_
      refine retQ (res1 rfl rfl) ?_
      rw [hfin]
      rw [List.append_assoc, take_flatG ordC_len] at hS
      exact ⟨rfl, hS⟩
set_option maxHeartbeats 2000000 in
/-- slices.Delete   barrage/api.CrOrder,barrage/api.CrOrder  -/
theorem c_Del1Ord {l : List Bx.Ord} {gb cap i : Nat} {w0 : World} (hr : w0.ownsRow 0 55 5 (.slice (some ⟨gb, 0, none⟩) l.length cap) l.length (l.flatMap ordC)) (hi : i < l.length) (hlen : l.length ≤ 1000) : CE Try.prog 78 #[.slice (some ⟨gb, 0, none⟩) l.length cap, .int .i64 (i : Int), .int .i64 ((i : Int) + 1)] w0 (fun u w' => u = .slice (some ⟨gb, 0, none⟩) (l.eraseIdx i).length cap ∧ StX (Value.slice (some ⟨gb, 0, none⟩) l.length cap).ownBlock.toList w0 w' [rowI (.slice (some ⟨gb, 0, none⟩) (l.eraseIdx i).length cap) 55 5 (l.eraseIdx i).length ((l.eraseIdx i).flatMap ordC)]) := by
  refine enter Try.func78 rfl Try.ntmps78 rfl ?_
  have hS := StX.startR hr
  have hcap := row_cap hr
  refine seq ?_
  refine region ?_
  refine sv (yAsg rfl) ?_
  refine nil ?_
  show Code.wp _ _ _ _ _
  refine seq ?_
  refine region ?_
  refine sv (yMove rfl) ?_
  refine sv (yMove rfl) ?_
  refine sv (yMove rfl) ?_
  refine sv (yMove rfl) ?_
  refine sv (yLen rfl Try.underlying46) ?_
  refine s3 (i := i) (j := i + 1) (m := l.length) rfl rfl (rfl.trans (congrArg (Value.int .i64) (show (i : Int) + 1 = ((i + 1 : Nat) : Int) by omega))) rfl Try.underlying46 Try.sizeOf55 (by omega) (by omega) (by omega) ?_; intro v13
  refine nil ?_
  show Code.wp _ _ _ _ _
  refine seq ?_
  refine seq ?_
  refine region ?_
  refine sv (yMove rfl) ?_
  refine sv (yMove rfl) ?_
  refine sv (yEql rfl rfl) ?_
  refine nil ?_
  show Code.wp _ _ _ _ _
  refine cond rfl (fun c16 => ?_) (fun c16 => ?_)
  ·
    simp only [Bool.and_eq_true, Bool.or_eq_true, Bool.and_eq_false_iff, Bool.or_eq_false_iff, decide_eq_true_eq, decide_eq_false_iff_not, Bool.not_eq_true, Bool.not_eq_false, Bool.not_not, Bool.not_eq_eq_eq_not, Bool.not_true, Bool.not_false, Bool.false_eq_true, Bool.true_eq_false, ne_eq, Decidable.not_not, not_false_eq_true, not_true_eq_false] at c16
    exfalso; omega
  ·
    simp only [Bool.and_eq_true, Bool.or_eq_true, Bool.and_eq_false_iff, Bool.or_eq_false_iff, decide_eq_true_eq, decide_eq_false_iff_not, Bool.not_eq_true, Bool.not_eq_false, Bool.not_not, Bool.not_eq_eq_eq_not, Bool.not_true, Bool.not_false, Bool.false_eq_true, Bool.true_eq_false, ne_eq, Decidable.not_not, not_false_eq_true, not_true_eq_false] at c16
    refine skip ?_
    show Code.wp _ _ _ _ _
    refine seq ?_
    refine region ?_
    refine sv (yMove rfl) ?_
    refine sv (yLen rfl Try.underlying46) ?_
    refine sv (yAsg rfl) ?_
    refine nil ?_
    show Code.wp _ _ _ _ _
    refine seq ?_
    refine region_tail mixed 6 (by kernel_rfl) hS ?_
    refine qv (fun w hS => (yMove rfl)) ?_
    refine qv (fun w hS => (yMove rfl)) ?_
    refine qv (fun w hS => (yTo rfl rfl Try.underlying46 Try.sizeOf55 (by omega))) ?_
    refine qv (fun w hS => (yMove rfl)) ?_
    refine qv (fun w hS => (yMove rfl)) ?_
    refine qv (fun w hS => (yTail (i := i + 1) rfl (rfl.trans (congrArg (Value.int .i64) (show (i : Int) + 1 = ((i + 1 : Nat) : Int) by omega))) Try.underlying46 Try.sizeOf55 (by omega))) ?_
    clear hS; refine qtl (fun w hS => ?_)
    refine sappIn (size := 5) (j := i + 1) (m := l.length) hS rfl rfl Try.underlying46 ti55 rfl (by omega) (by omega) (ords_one l) ?_; clear hS; intro w hS
    refine sv (yAsg rfl) ?_
    refine nil ?_
    show Code.wp _ _ _ _ _
    refine seq ?_
    refine region ?_
    refine sv (yMove rfl) ?_
    refine sv (yMove rfl) ?_
    refine sv (yLen rfl Try.underlying46) ?_
    refine sv (yMove rfl) ?_
    refine sv (yMid (i := l.length - 1) (j := l.length) rfl (rfl.trans (congrArg (Value.int .i64) (by omega))) rfl Try.underlying46 Try.sizeOf55 (by omega) (by omega)) ?_
    refine sclear (i := l.length - 1) (m := l.length) hS rfl Try.underlying46 Try.zeroValue55 rfl (by decide) (by decide) (by omega) ?_; clear hS; intro w hS
    refine nil ?_
    show Code.wp _ _ _ _ _
    refine seq ?_
    refine region ?_
    refine sv (yMove rfl) ?_
    refine sv (yAsg rfl) ?_
    refine nil ?_
    show Code.wp _ _ _ _ _
    refine wp_ret ?_
    refine retQ (res1 rfl rfl) ?_
    have hel : (l.eraseIdx i).length = l.length - 1 := List.length_eraseIdx_of_lt hi
    rw [hel, show i + (l.length - (i + 1)) = l.length - 1 by omega]
    rw [erase_flat ordC_len hi] at hS
    exact ⟨rfl, hS⟩
end Go.Proofs.Ytghgnofilbnbaaa
/- part Ck43 -/
namespace Go.Proofs.Ytghgnofilbnbaaa
open Go Bx
/-- barrage/crew.Judge closure 1 -/
theorem c_jud1 {o : Bx.Ord} {start : Int} {b : Nat} {T : TypeId} {w0 : World} (hb : w0.heap[b]? = some (.cells [.int .i64 start].toArray T (0, 0))) : CV Try.prog 75 #[.agg (ordC o).toArray, .pointer (some ⟨b, 0, none⟩)] w0 (.bool (decide (o.tm < start))) := by
  refine enter Try.func75 rfl Try.ntmps75 rfl ?_
  have hS := St.start w0
  refine seq ?_
  refine region ?_
  refine sbox hS rfl rfl ?_; clear hS; intro b2 w hS
  refine sv (yAsg rfl) ?_
  refine nil ?_
  show Code.wp _ _ _ _ _
  refine seq ?_
  refine region ?_
  refine sv (fa55_4 rfl) ?_
  refine sv (yLdB rfl Try.isAgg3 (hS.at _) rfl) ?_
  refine sv (yLdB rfl Try.isAgg3 (hS.ext.get hb) rfl) ?_
  refine sv (yLss rfl rfl) ?_
  refine sv (yAsg rfl) ?_
  refine nil ?_
  show Code.wp _ _ _ _ _
  refine wp_ret ?_
  exact retV (res1 rfl rfl) hS.ext
/-- barrage/crew.Judge closure 2 -/
theorem c_jud2 {o : Bx.Ord} {x : Stp} {b : Nat} {T : TypeId} {w0 : World} (hb : w0.heap[b]? = some (.cells (stpC x).toArray T (0, 0))) : CV Try.prog 77 #[.agg (ordC o).toArray, .pointer (some ⟨b, 0, none⟩)] w0 (.bool (hitO x o)) := by
  refine enter Try.func77 rfl Try.ntmps77 rfl ?_
  have hS := St.start w0
  refine seq ?_
  refine region ?_
  refine sbox hS rfl rfl ?_; clear hS; intro b2 w hS
  refine sv (yAsg rfl) ?_
  refine nil ?_
  show Code.wp _ _ _ _ _
  refine seq ?_
  refine region ?_
  refine sv (fa55_2 rfl) ?_
  refine sv (yLdB rfl Try.isAgg3 (hS.at _) rfl) ?_
  refine sv (fa89_0 rfl) ?_
  refine sv (yLdB rfl Try.isAgg3 (hS.ext.get hb) rfl) ?_
  refine sv (yEql rfl rfl) ?_
  refine sv (yMove rfl) ?_
  refine sg rfl rfl rfl (fun g => (fa55_3 rfl)) (fun v10 g10 => ?_)
  refine sg rfl rfl rfl (fun g => (yLdB (g10.1 g) Try.isAgg3 (hS.at _) rfl)) (fun v11 g11 => ?_)
  refine sg rfl rfl rfl (fun g => (fa89_1 rfl)) (fun v12 g12 => ?_)
  refine sg rfl rfl rfl (fun g => (yLdB (g12.1 g) Try.isAgg3 (hS.ext.get hb) rfl)) (fun v13 g13 => ?_)
  refine sg rfl rfl rfl (fun g => (yEql (g11.1 g) (g13.1 g))) (fun v14 g14 => ?_)
  refine sv (yAnd rfl (fun hB => (g14.1 hB)) rfl) ?_
  refine sv (yAsg rfl) ?_
  refine nil ?_
  show Code.wp _ _ _ _ _
  refine wp_ret ?_
  exact retV (res1 rfl rfl) hS.ext
set_option maxHeartbeats 8000000 in
/-- barrage/crew.Judge -/
theorem c_Judge {c : Crew} {cs ss : List Value} {s : Scr} {start : Int} {acts : List Acn} {av : Value} {w0 : World} (h : RCrew w0 cs c) (hs : RScr w0 ss s) (hsi : I64 start) (ha : Sl w0 6 RAct av acts) : CE Try.prog 38 #[.agg cs.toArray, .agg ss.toArray, .int .i64 start, av] w0 (fun u w' => ∃ lv, u = .tuple #[lv, .int .i64 (judE c s start acts)] ∧ St w0 w' [rowI lv 98 2 (judL c s start acts).length ((judL c s start acts).flatMap pC)]) := by
  obtain ⟨ov, kv, nv, rfl, hso, hsk, hsn, hrm⟩ := id h
  obtain ⟨a, cap, rfl, hcap, hmx, hel⟩ := id hso
  obtain ⟨sv, rfl, hsz, hst⟩ := id hs
  obtain ⟨ax, cps, rfl, hscap, hsmx, hels⟩ := id hst
  obtain ⟨aa, ca, rfl, -⟩ := id ha
  refine enter Try.func38 rfl Try.ntmps38 rfl ?_
  have hS := St.start w0
  refine seq ?_
  refine region ?_
  refine sbox hS rfl rfl ?_; clear hS; intro b4 w hS
  refine sbox hS rfl rfl ?_; clear hS; intro b5 w hS
  refine sbox hS rfl rfl ?_; clear hS; intro b6 w hS
  refine sv (yAsg rfl) ?_
  refine sv (yAsg rfl) ?_
  refine nil ?_
  show Code.wp _ _ _ _ _
  refine seq ?_
  refine seq ?_
  refine region ?_
  refine sv (yLdBA rfl Try.isAgg26 Try.sizeOf26 (hS.at _) rfl rfl) ?_
  refine sv (yLdBA rfl Try.isAgg29 Try.sizeOf29 (hS.at _) rfl rfl) ?_
  refine scall Try.call23 (.cons rfl (.cons rfl .nil)) (c_CheckScript (h.ext hS.ext) (hs.ext hS.ext)) ?_
  rintro _ w ⟨rfl, hE⟩; replace hS := hS.step hE; clear hE
  refine sv (yMove rfl) ?_
  refine sv (yExt rfl rfl) ?_
  refine sv (yExt rfl rfl) ?_
  refine sv (yAsg rfl) ?_
  refine nil ?_
  show Code.wp _ _ _ _ _
  refine seq ?_
  refine region ?_
  refine sv (yMove rfl) ?_
  refine sv (yNeq rfl rfl) ?_
  refine nil ?_
  show Code.wp _ _ _ _ _
  refine cond rfl (fun c25 => ?_) (fun c25 => ?_)
  ·
    simp only [Bool.and_eq_true, Bool.or_eq_true, Bool.and_eq_false_iff, Bool.or_eq_false_iff, decide_eq_true_eq, decide_eq_false_iff_not, Bool.not_eq_true, Bool.not_eq_false, Bool.not_not, Bool.not_eq_eq_eq_not, Bool.not_true, Bool.not_false, Bool.false_eq_true, Bool.true_eq_false, ne_eq, Decidable.not_not, not_false_eq_true, not_true_eq_false] at c25
    refine seq ?_
    refine region ?_
    refine sv (yMove rfl) ?_
    refine sv (yAsg rfl) ?_
    refine sv (yAsg rfl) ?_
    refine nil ?_
    show Code.wp _ _ _ _ _
    refine wp_ret (thenR ?_)
    refine retQ (res2 rfl rfl rfl) ?_
    exact ⟨_, by (rw [(judE_1 c25).1]; try rfl), by rw [(judE_1 c25).2]; exact (hS.nilrow 98 2).sub (.cons_cons _ (List.nil_sublist _))⟩
  ·
    simp only [Bool.and_eq_true, Bool.or_eq_true, Bool.and_eq_false_iff, Bool.or_eq_false_iff, decide_eq_true_eq, decide_eq_false_iff_not, Bool.not_eq_true, Bool.not_eq_false, Bool.not_not, Bool.not_eq_eq_eq_not, Bool.not_true, Bool.not_false, Bool.false_eq_true, Bool.true_eq_false, ne_eq, Decidable.not_not, not_false_eq_true, not_true_eq_false] at c25
    have hok := scrOk_of c25
    have hlen := hok.len
    refine skip ?_
    show Code.wp _ _ _ _ _
    refine seq ?_
    refine seq ?_
    refine region ?_
    refine sv (yLdB rfl Try.isAgg3 (hS.at _) rfl) ?_
    refine scall Try.call42 (.cons rfl .nil) c_never ?_
    rintro _ w ⟨rfl, hE⟩; replace hS := hS.step hE; clear hE
    refine nil ?_
    show Code.wp _ _ _ _ _
    refine cond rfl (fun c28 => ?_) (fun c28 => ?_)
    ·
      refine seq ?_
      refine region ?_
      refine sv (yAsg rfl) ?_
      refine sv (yAsg rfl) ?_
      refine nil ?_
      show Code.wp _ _ _ _ _
      refine wp_ret (thenR ?_)
      refine retQ (res2 rfl rfl rfl) ?_
      exact ⟨_, by (rw [(judE_2 c25 c28).1]; try rfl), by rw [(judE_2 c25 c28).2]; exact (hS.nilrow 98 2).sub (.cons_cons _ (List.nil_sublist _))⟩
    ·
      refine skip ?_
      show Code.wp _ _ _ _ _
      refine seq ?_
      refine region ?_
      refine sv (yLdBA rfl Try.isAgg26 Try.sizeOf26 (hS.at _) rfl rfl) ?_
      refine sv (yMove rfl) ?_
      refine scall Try.call19 (.cons rfl (.cons rfl .nil)) (c_Orders (h.ext hS.ext) (ha.ext RAct.stays hS.ext)) ?_
      rintro _ w ⟨ov, rfl, hM⟩; replace hS := hS.call1 hM; clear hM
      obtain ⟨ao, co, rfl⟩ := row_shape (hS.row ov)
      refine sv (yMove rfl) ?_
      refine sv (yExt rfl rfl) ?_
      refine sv (yExt rfl rfl) ?_
      refine sv (yAsg rfl) ?_
      refine sv (yAsg rfl) ?_
      refine nil ?_
      show Code.wp _ _ _ _ _
      refine seq ?_
      refine seq ?_
      refine region ?_
      refine sv (yMove rfl) ?_
      refine sv (yNeq rfl rfl) ?_
      refine nil ?_
      show Code.wp _ _ _ _ _
      refine cond rfl (fun c36 => ?_) (fun c36 => ?_)
      ·
        simp only [Bool.and_eq_true, Bool.or_eq_true, Bool.and_eq_false_iff, Bool.or_eq_false_iff, decide_eq_true_eq, decide_eq_false_iff_not, Bool.not_eq_true, Bool.not_eq_false, Bool.not_not, Bool.not_eq_eq_eq_not, Bool.not_true, Bool.not_false, Bool.false_eq_true, Bool.true_eq_false, ne_eq, Decidable.not_not, not_false_eq_true, not_true_eq_false] at c36
        refine seq ?_
        refine region ?_
        refine sv (yMove rfl) ?_
        refine sv (yAsg rfl) ?_
        refine sv (yAsg rfl) ?_
        refine nil ?_
        show Code.wp _ _ _ _ _
        refine wp_ret (thenR ?_)
        refine retQ (res2 rfl rfl rfl) ?_
        exact ⟨_, by (rw [(judE_3 c25 c28 c36).1]; try rfl), by rw [(judE_3 c25 c28 c36).2]; exact (hS.nilrow 98 2).sub (.cons_cons _ (List.nil_sublist _))⟩
      ·
        simp only [Bool.and_eq_true, Bool.or_eq_true, Bool.and_eq_false_iff, Bool.or_eq_false_iff, decide_eq_true_eq, decide_eq_false_iff_not, Bool.not_eq_true, Bool.not_eq_false, Bool.not_not, Bool.not_eq_eq_eq_not, Bool.not_true, Bool.not_false, Bool.false_eq_true, Bool.true_eq_false, ne_eq, Decidable.not_not, not_false_eq_true, not_true_eq_false] at c36
        obtain ⟨hlf, hlt⟩ := leftJ_ok (start := start) c36
        have hst2 := outB_false.1 c28
        have hfin := judE_0 c25 c28 c36
        have hpo : (playO c acts).length ≤ 1000 := by rw [playO_ok c36]; obtain ⟨h1, h2, h3⟩ := play_ok c36; have := (plN_inv h1 h3 _ (Nat.le_refl _)).1.nord; omega
        refine skip ?_
        show Code.wp _ _ _ _ _
        refine seq ?_
        refine cutK (fun f => f 5 = .pointer (some ⟨b5, 0, none⟩) ∧ f 6 = .pointer (some ⟨b6, 0, none⟩) ∧ f 8 = .slice none 0 0 ∧ f 10 = .slice ao (playO c acts).length co ∧ True) ⟨rfl, rfl, rfl, rfl, trivial⟩ ?_
        rintro f ⟨h5, h6, h8, h10, -⟩
        refine region ?_
        replace hS := hS.sub (.cons_cons _ (.cons_cons _ (.cons_cons _ (List.nil_sublist _))))
        have hb6 : b6 ∉ (Value.slice ao (playO c acts).length co).ownBlock.toList := fun hm => (hS.sub (.cons_cons _ (.cons_cons _ (List.nil_sublist _)))).apart2 hm (by simp [cellI])
        refine sv (yMove h10) ?_
        refine sv (yFn (.cons h6 .nil)) ?_
        refine scall Try.call74 (.cons rfl (.cons rfl .nil)) (c_DeleteOrd (p := fun o => decide (o.tm < start)) (cl := [.pointer (some ⟨b6, 0, none⟩)]) (hS.row (.slice ao (playO c acts).length co)) Try.call75 (fun x w _ e => c_jud1 (e.get (hS.at b6) hb6)) hpo) ?_
        rintro u w ⟨hu, hM⟩
        have hu2 : u = .slice ao (leftJ c acts start).length co := hu
        subst hu2
        clear hu
        replace hS := hS.app (v := .slice ao (playO c acts).length co) (v' := .slice ao (leftJ c acts start).length co) (hM.row _) hM.grown (.inl own_slice)
        clear hM hb6
        refine sv (yAsg rfl) ?_
        refine nil ?_
        show Code.wp _ _ _ _ _
        refine seq ?_
        refine cutK (fun f => f 5 = .pointer (some ⟨b5, 0, none⟩) ∧ f 6 = .pointer (some ⟨b6, 0, none⟩) ∧ f 8 = .slice none 0 0 ∧ f 10 = .slice ao (leftJ c acts start).length co ∧ True) ⟨h5, h6, h8, rfl, trivial⟩ ?_
        rintro f ⟨h5, h6, h8, h10, -⟩
        refine region ?_
        refine smkmap (Value.int .i64) hS ?_; clear hS; intro b41 w hS
        refine sv (yLdB h6 Try.isAgg3 (hS.at _) rfl) ?_
        refine sins (Value.int .i64) hS rfl rfl rfl Try.runUnderlying141 (keyInt Try.underlying3) ?_; clear hS; intro w hS
        refine sv (yMove rfl) ?_
        refine sv (yAsg rfl) ?_
        refine nil ?_
        show Code.wp _ _ _ _ _
        refine seq ?_
        refine seq ?_
        refine region ?_
        refine sv (fa29_1 h5) ?_
        refine sv (yLdB rfl Try.isAgg27 (hS.at _) rfl) ?_
        refine sv (yLen rfl Try.underlying27) ?_
        refine sv (yMove rfl) ?_
        refine nil ?_
        show Code.wp _ _ _ _ _
        refine block ?_
        replace hS := hS.nilrow 98 2
        refine loop (fun f w zz => ∃ (k : Nat) (al : Option Addr) (cl : Nat) (fv : Value) (M : LMp), f 11 = .map (some b41) ∧ f 45 = .slice ax s.steps.length cps ∧ f 46 = .int .i64 (s.steps.length : Int) ∧ f 47 = .int .i64 (k : Int) ∧ f 8 = fv ∧ f 10 = .slice al (judN s start (leftJ c acts start) k).left.length cl ∧ StX [] w0 w [rowI fv 98 2 ((judN s start (leftJ c acts start) k).flt).length (((judN s start (leftJ c acts start) k).flt).flatMap pC), mapI b41 (Value.int .i64) M, rowI (.slice al (judN s start (leftJ c acts start) k).left.length cl) 55 5 (judN s start (leftJ c acts start) k).left.length ((judN s start (leftJ c acts start) k).left.flatMap ordC)] ∧ (k ≤ s.steps.length) ∧ (MapJ start (judN s start (leftJ c acts start) k).done M) ∧ zz = s.steps.length - k) _ ⟨_, rfl, 0, ao, co, _, _, rfl, rfl, rfl, rfl, h8, h10, (hS.sub (.cons_cons _ (.cons_cons _ (.cons_cons _ (List.nil_sublist _))))), (Nat.zero_le _), (mapJ_0 start), rfl⟩ ?_
        clear hS
        rintro f w _ ⟨k, al, cl, fv, M, h11, h45, h46, h47, h8, h10, hS, hk, hM, rfl⟩
        refine seq ?_
        refine region ?_
        refine sv (yLss h47 h46) ?_
        refine nil ?_
        show Code.wp _ _ _ _ _
        refine seq ?_
        refine cond rfl (fun c48 => ?_) (fun c48 => ?_)
        ·
          simp only [Bool.and_eq_true, Bool.or_eq_true, Bool.and_eq_false_iff, Bool.or_eq_false_iff, decide_eq_true_eq, decide_eq_false_iff_not, Bool.not_eq_true, Bool.not_eq_false, Bool.not_not, Bool.not_eq_eq_eq_not, Bool.not_true, Bool.not_false, Bool.false_eq_true, Bool.true_eq_false, ne_eq, Decidable.not_not, not_false_eq_true, not_true_eq_false] at c48
          refine skip ?_
          show Code.wp _ _ _ _ _
          refine seq ?_
          refine block ?_
          refine seq ?_
          refine region ?_
          refine sv (yMove h47) ?_
          obtain ⟨x, hxq, hdq⟩ := drop_of (l := s.steps) (k := k) (by omega)
          obtain ⟨bq, oq, csq, haq, hlenq, hcsq, hRq⟩ := hels (k) (by omega)
          obtain rfl : x = s.steps[k] := (List.getElem?_eq_some_iff.1 hxq).2.symm
          generalize s.steps[k] = x at hxq hdq hRq
          obtain ⟨rfl, hxi⟩ := hRq
          have hsx := hok.steps k x hxq
          have hx1 := hsx.after
          have hx2 := hsx.most
          have hx3 := hsx.least
          have hjs := judN_succ (start := start) (l := leftJ c acts start) hxq
          have hjl := judN_left s start (leftJ c acts start) k
          have hjn := judN_len s start (leftJ c acts start) k
          have hjf := judN_flt s start (leftJ c acts start) k
          have hjd := judN_done (s := s) (start := start) hlt k
          refine sv (yIxa h45 haq h47 Try.runUnderlying27 Try.sizeOf89 (by omega) (by omega)) ?_
          refine sv (yLdA rfl Try.isAgg89 Try.sizeOf89 (hcsq.ext hS.ext) rfl) ?_
          refine salloc hS Try.zeroValue89 rfl ?_; clear hS; intro b13 w hS
          refine sv (yAsg rfl) ?_
          refine sst hS rfl rfl Try.sizeOf89 rfl rfl rfl rfl ?_; clear hS; intro w hS
          refine nil ?_
          show Code.wp _ _ _ _ _
          refine seq ?_
          refine cutK (fun f => f 11 = .map (some b41) ∧ f 45 = .slice ax s.steps.length cps ∧ f 46 = .int .i64 (s.steps.length : Int) ∧ f 47 = .int .i64 (k : Int) ∧ f 8 = fv ∧ f 10 = .slice al (judN s start (leftJ c acts start) k).left.length cl ∧ f 12 = .int .i64 (k : Int) ∧ f 13 = .pointer (some ⟨b13, 0, none⟩) ∧ True) ⟨h11, h45, h46, h47, h8, h10, rfl, rfl, trivial⟩ ?_
          rintro f ⟨h11, h45, h46, h47, h8, h10, h12, h13, -⟩
          refine region ?_
          refine sv (yMove h10) ?_
          refine sv (yFn (.cons h13 .nil)) ?_
          replace hS : StX [] w0 w (blk b13 (stpC x) 89 :: rowI fv 98 2 ((judN s start (leftJ c acts start) k).flt).length (((judN s start (leftJ c acts start) k).flt).flatMap pC) :: mapI b41 (Value.int .i64) M :: rowI (.slice al (judN s start (leftJ c acts start) k).left.length cl) 55 5 (judN s start (leftJ c acts start) k).left.length ((judN s start (leftJ c acts start) k).left.flatMap ordC) :: []) := hS
          refine scall Try.call76 (.cons rfl (.cons rfl .nil)) (c_IndexOrd (p := hitO x) (cl := [.pointer (some ⟨b13, 0, none⟩)]) (sl_ords (hS.row (.slice al (judN s start (leftJ c acts start) k).left.length cl)) rfl) Try.call77 (fun o w _ e => c_jud2 (e.get (hS.at b13)))) ?_
          rintro _ w ⟨rfl, hE⟩; replace hS := hS.step hE; clear hE
          refine sv (yAsg rfl) ?_
          refine nil ?_
          show Code.wp _ _ _ _ _
          refine seq ?_
          refine seq ?_
          refine region ?_
          refine sv (yMove rfl) ?_
          refine sv (yLss rfl rfl) ?_
          refine nil ?_
          show Code.wp _ _ _ _ _
          refine cond rfl (fun c56 => ?_) (fun c56 => ?_)
          ·
            simp only [Bool.and_eq_true, Bool.or_eq_true, Bool.and_eq_false_iff, Bool.or_eq_false_iff, decide_eq_true_eq, decide_eq_false_iff_not, Bool.not_eq_true, Bool.not_eq_false, Bool.not_not, Bool.not_eq_eq_eq_not, Bool.not_true, Bool.not_false, Bool.false_eq_true, Bool.true_eq_false, ne_eq, Decidable.not_not, not_false_eq_true, not_true_eq_false] at c56
            have hju := hjs.trans (judS_no c56)
            have hjl2 : (judN s start (leftJ c acts start) (k + 1)).left = (judN s start (leftJ c acts start) k).left := by rw [hju]
            have hjf2 : (judN s start (leftJ c acts start) (k + 1)).flt = (judN s start (leftJ c acts start) k).flt ++ [(207, (k : Int))] := by rw [hju]
            have hjd2 : (judN s start (leftJ c acts start) (k + 1)).done = (judN s start (leftJ c acts start) k).done ++ [none] := by rw [hju]
            refine seq ?_
            refine region ?_
            refine sv (yMove h8) ?_
            refine sv (yMove h12) ?_
            refine sv (yBuild Try.zeroValue98 rfl pl98 (.cons rfl rfl (.cons rfl rfl .nil)) rfl) ?_
            refine sbslice hS Try.underlying91 Try.sizeOf98 rfl Try.zeroValue98 rfl (.cons rfl rfl .nil) rfl ?_; clear hS; intro b60 w hS
            refine sapp (bytes := 16) (size := 2) (v := fv) (m := 1) hS rfl rfl Try.underlying91 ti98 rfl rfl rfl rfl (by decide) (blk_cells (hS.at _)) rfl rfl (by omega) (by omega) ?_; clear hS; intro v61 w hS
            refine sv (yAsg rfl) ?_
            refine nil ?_
            show Code.wp _ _ _ _ _
            refine exit ?_
            show Code.wp _ _ _ _ _
            refine region ?_
            refine sv (yAdd h47 rfl ⟨by omega, by omega⟩) ?_
            refine sv (yMove rfl) ?_
            refine nil ?_
            exact ⟨_, _, rfl, ⟨k + 1, al, cl, v61, M, h11, h45, h46, rfl, rfl, (by rw [hjl2]; exact h10), (by rw [hjl2, hjf2, List.flatMap_append, List.length_append]; exact hS.sub (.cons _ (.cons _ (List.Sublist.refl _)))), (by omega), (by rw [hjd2]; exact mapJ_none hM), rfl⟩, by omega⟩
          ·
            simp only [Bool.and_eq_true, Bool.or_eq_true, Bool.and_eq_false_iff, Bool.or_eq_false_iff, decide_eq_true_eq, decide_eq_false_iff_not, Bool.not_eq_true, Bool.not_eq_false, Bool.not_not, Bool.not_eq_eq_eq_not, Bool.not_true, Bool.not_false, Bool.false_eq_true, Bool.true_eq_false, ne_eq, Decidable.not_not, not_false_eq_true, not_true_eq_false] at c56
            obtain ⟨q, hq1, hqe, -, o, ho, -⟩ := (idxF_spec (hitO x) (judN s start (leftJ c acts start) k).left 0 (Int.le_refl 0)).resolve_left (fun h => by rw [h.1] at c56; exact c56 (by decide))
            rw [Int.zero_add] at hqe
            have hju := hjs.trans (judS_yes hqe ho)
            have hjl2 : (judN s start (leftJ c acts start) (k + 1)).left = (judN s start (leftJ c acts start) k).left.eraseIdx q := by rw [hju]
            have hjf3 : (judN s start (leftJ c acts start) (k + 1)).flt = (judN s start (leftJ c acts start) k).flt ++ fltJ k x o.tm (befJ start (judN s start (leftJ c acts start) k).done x.after) := by rw [hju]
            have hjd2 : (judN s start (leftJ c acts start) (k + 1)).done = (judN s start (leftJ c acts start) k).done ++ [some o.tm] := by rw [hju]
            clear hju hjs
            have hotm := hlt o (hjl.2 o (List.mem_of_getElem? ho))
            obtain ⟨gl, rfl, -⟩ := row_get (hS.row (.slice al (judN s start (leftJ c acts start) k).left.length cl)) (by omega)
            refine skip ?_
            show Code.wp _ _ _ _ _
            refine seq ?_
            refine cutK (fun f => f 11 = .map (some b41) ∧ f 45 = .slice ax s.steps.length cps ∧ f 46 = .int .i64 (s.steps.length : Int) ∧ f 47 = .int .i64 (k : Int) ∧ f 8 = fv ∧ f 10 = .slice (some ⟨gl, 0, none⟩) (judN s start (leftJ c acts start) k).left.length cl ∧ f 12 = .int .i64 (k : Int) ∧ f 13 = .pointer (some ⟨b13, 0, none⟩) ∧ f 14 = .int .i64 (idxF (hitO x) (judN s start (leftJ c acts start) k).left 0) ∧ True) ⟨h11, h45, h46, h47, h8, h10, h12, h13, rfl, trivial⟩ ?_
            rintro f ⟨h11, h45, h46, h47, h8, h10, h12, h13, h14, -⟩
            refine region ?_
            refine sv (yMove h10) ?_
            refine sv (yMove h14) ?_
            refine sv (yIx0 rfl (rfl.trans (congrArg (Value.int .i64) hqe)) Try.runUnderlying46 Try.sizeOf55 (by omega)) ?_
            refine sv (fa55_4 rfl) ?_
            refine sv (yLd rfl Try.isAgg3 ((flat_cells0 ordC_len (row_at (hS.row (.slice (some ⟨gl, 0, none⟩) (judN s start (leftJ c acts start) k).left.length cl)) rfl (by omega)) ho).at (j := 4) rfl)) ?_
            refine sv (yAsg rfl) ?_
            refine nil ?_
            show Code.wp _ _ _ _ _
            refine seq ?_
            refine region ?_
            refine sv (yMove h11) ?_
            refine sv (yMove h12) ?_
            refine sv (yMove rfl) ?_
            refine smapset (Value.int .i64) hS rfl rfl rfl Try.runUnderlying141 (keyInt Try.underlying3) ?_; clear hS; intro w hS
            refine nil ?_
            show Code.wp _ _ _ _ _
            refine seq ?_
            refine region ?_
            refine sv (yMove h10) ?_
            refine sv (yMove h14) ?_
            refine sv (yMove h14) ?_
            refine sv (yAdd rfl rfl ⟨by omega, by omega⟩) ?_
            refine scall Try.call78 (.cons rfl (.cons (rfl.trans (congrArg (Value.int .i64) hqe)) (.cons (rfl.trans (congrArg (Value.int .i64) (by omega))) .nil))) (c_Del1Ord (hS.row (.slice (some ⟨gl, 0, none⟩) (judN s start (leftJ c acts start) k).left.length cl)) (i := q) hq1 (by omega)) ?_
            rintro u w ⟨hu, hMM⟩
            have hu2 : u = .slice (some ⟨gl, 0, none⟩) ((judN s start (leftJ c acts start) k).left.eraseIdx q).length cl := hu
            subst hu2
            clear hu
            replace hS := hS.app (v := .slice (some ⟨gl, 0, none⟩) (judN s start (leftJ c acts start) k).left.length cl) (v' := .slice (some ⟨gl, 0, none⟩) ((judN s start (leftJ c acts start) k).left.eraseIdx q).length cl) (hMM.row _) hMM.grown (.inl own_slice)
            clear hMM
            refine sv (yAsg rfl) ?_
            refine nil ?_
            show Code.wp _ _ _ _ _
            refine seq ?_
            refine cutK (fun f => f 11 = .map (some b41) ∧ f 45 = .slice ax s.steps.length cps ∧ f 46 = .int .i64 (s.steps.length : Int) ∧ f 47 = .int .i64 (k : Int) ∧ f 8 = fv ∧ f 10 = .slice (some ⟨gl, 0, none⟩) ((judN s start (leftJ c acts start) k).left.eraseIdx q).length cl ∧ f 12 = .int .i64 (k : Int) ∧ f 13 = .pointer (some ⟨b13, 0, none⟩) ∧ f 15 = .int .i64 o.tm ∧ True) ⟨h11, h45, h46, h47, h8, rfl, h12, h13, rfl, trivial⟩ ?_
            rintro f ⟨h11, h45, h46, h47, h8, h10, h12, h13, h15, -⟩
            refine region ?_
            refine sv (yMove h11) ?_
            refine sv (fa89_2 h13) ?_
            refine sv (yLdB rfl Try.isAgg3 (hS.at _) rfl) ?_
            refine sv (lookJ (yLookOk (Value.int .i64) rfl rfl Try.runUnderlying141 (keyInt Try.underlying3) Try.zeroValue3 (hS.is _) rfl) (mapJ_in hM hjn hx1.2)) ?_
            refine sv (yMove rfl) ?_
            refine sv (yExt rfl rfl) ?_
            refine sv (yExt rfl rfl) ?_
            refine sv (yAsg rfl) ?_
            refine sv (yAsg rfl) ?_
            refine nil ?_
            show Code.wp _ _ _ _ _
            refine block ?_
            refine seq ?_
            refine cutK (fun f => f 11 = .map (some b41) ∧ f 45 = .slice ax s.steps.length cps ∧ f 46 = .int .i64 (s.steps.length : Int) ∧ f 47 = .int .i64 (k : Int) ∧ f 8 = fv ∧ f 10 = .slice (some ⟨gl, 0, none⟩) ((judN s start (leftJ c acts start) k).left.eraseIdx q).length cl ∧ f 12 = .int .i64 (k : Int) ∧ f 13 = .pointer (some ⟨b13, 0, none⟩) ∧ f 15 = .int .i64 o.tm ∧ f 16 = .int .i64 ((befJ start (judN s start (leftJ c acts start) k).done x.after).getD 0) ∧ f 17 = .bool (befJ start (judN s start (leftJ c acts start) k).done x.after).isSome ∧ True) ⟨h11, h45, h46, h47, h8, h10, h12, h13, h15, rfl, rfl, trivial⟩ ?_
            rintro f ⟨h11, h45, h46, h47, h8, h10, h12, h13, h15, h16, h17, -⟩
            refine region ?_
            have hbj := befJ_getD (a := x.after) hst2 hjd
            refine sv (yMove h17) ?_
            refine sv (yMove rfl) ?_
            refine sg rfl rfl rfl (fun g => (yMove h15)) (fun v85 g85 => ?_)
            refine sg rfl rfl rfl (fun g => (yMove h16)) (fun v86 g86 => ?_)
            refine sg rfl rfl rfl (fun g => (fa89_3 h13)) (fun v87 g87 => ?_)
            refine sg rfl rfl rfl (fun g => (yLdB (g87.1 g) Try.isAgg3 (hS.at _) rfl)) (fun v88 g88 => ?_)
            refine sg rfl rfl rfl (fun g => (yAdd (g86.1 g) (g88.1 g) ⟨by omega, by omega⟩)) (fun v89 g89 => ?_)
            refine sg rfl rfl rfl (fun g => (yLss (g85.1 g) (g89.1 g))) (fun v90 g90 => ?_)
            refine sv (yAnd rfl (fun hB => (g90.1 hB)) rfl) ?_
            refine sv (yAsg rfl) ?_
            refine nil ?_
            show Code.wp _ _ _ _ _
            refine cond rfl (fun c82 => ?_) (fun c82 => ?_)
            ·
              simp only [Bool.and_eq_true, Bool.or_eq_true, Bool.and_eq_false_iff, Bool.or_eq_false_iff, decide_eq_true_eq, decide_eq_false_iff_not, Bool.not_eq_true, Bool.not_eq_false, Bool.not_not, Bool.not_eq_eq_eq_not, Bool.not_true, Bool.not_false, Bool.false_eq_true, Bool.true_eq_false, ne_eq, Decidable.not_not, not_false_eq_true, not_true_eq_false] at c82
              have hjf2 := hjf3.trans (congrArg _ (fltJ_1 (i := k) c82.1 c82.2))
              refine region ?_
              refine sv (yMove h8) ?_
              refine sv (yMove h12) ?_
              refine sv (yBuild Try.zeroValue98 rfl pl98 (.cons rfl rfl (.cons rfl rfl .nil)) rfl) ?_
              refine sbslice hS Try.underlying91 Try.sizeOf98 rfl Try.zeroValue98 rfl (.cons rfl rfl .nil) rfl ?_; clear hS; intro b95 w hS
              refine sapp (bytes := 16) (size := 2) (v := fv) (m := 1) hS rfl rfl Try.underlying91 ti98 rfl rfl rfl rfl (by decide) (blk_cells (hS.at _)) rfl rfl (by omega) (by omega) ?_; clear hS; intro v96 w hS
              refine sv (yAsg rfl) ?_
              refine nil ?_
              show Code.wp _ _ _ _ _
              refine region ?_
              refine sv (yAdd h47 rfl ⟨by omega, by omega⟩) ?_
              refine sv (yMove rfl) ?_
              refine nil ?_
              exact ⟨_, _, rfl, ⟨k + 1, (some ⟨gl, 0, none⟩), cl, v96, setM M (k : Int) (.int .i64 o.tm), h11, h45, h46, rfl, rfl, (by rw [hjl2]; exact h10), (by rw [hjl2, hjf2, List.flatMap_append, List.length_append]; exact hS.sub (.cons _ (.cons _ (List.Sublist.refl _)))), (by omega), (by rw [hjd2]; exact mapJ_some hM (judN_len s start _ k)), rfl⟩, by omega⟩
            ·
              simp only [Bool.and_eq_true, Bool.or_eq_true, Bool.and_eq_false_iff, Bool.or_eq_false_iff, decide_eq_true_eq, decide_eq_false_iff_not, Bool.not_eq_true, Bool.not_eq_false, Bool.not_not, Bool.not_eq_eq_eq_not, Bool.not_true, Bool.not_false, Bool.false_eq_true, Bool.true_eq_false, ne_eq, Decidable.not_not, not_false_eq_true, not_true_eq_false] at c82
              refine seq ?_
              refine cutK (fun f => f 11 = .map (some b41) ∧ f 45 = .slice ax s.steps.length cps ∧ f 46 = .int .i64 (s.steps.length : Int) ∧ f 47 = .int .i64 (k : Int) ∧ f 8 = fv ∧ f 10 = .slice (some ⟨gl, 0, none⟩) ((judN s start (leftJ c acts start) k).left.eraseIdx q).length cl ∧ f 12 = .int .i64 (k : Int) ∧ f 13 = .pointer (some ⟨b13, 0, none⟩) ∧ f 15 = .int .i64 o.tm ∧ f 16 = .int .i64 ((befJ start (judN s start (leftJ c acts start) k).done x.after).getD 0) ∧ f 17 = .bool (befJ start (judN s start (leftJ c acts start) k).done x.after).isSome ∧ True) ⟨h11, h45, h46, h47, h8, h10, h12, h13, h15, h16, h17, trivial⟩ ?_
              rintro f ⟨h11, h45, h46, h47, h8, h10, h12, h13, h15, h16, h17, -⟩
              refine region ?_
              refine sv (yMove h17) ?_
              refine sv (yMove rfl) ?_
              refine sg rfl rfl rfl (fun g => (yMove h15)) (fun v100 g100 => ?_)
              refine sg rfl rfl rfl (fun g => (yMove h16)) (fun v101 g101 => ?_)
              refine sg rfl rfl rfl (fun g => (fa89_4 h13)) (fun v102 g102 => ?_)
              refine sg rfl rfl rfl (fun g => (yLdB (g102.1 g) Try.isAgg3 (hS.at _) rfl)) (fun v103 g103 => ?_)
              refine sg rfl rfl rfl (fun g => (yAdd (g101.1 g) (g103.1 g) ⟨by omega, by omega⟩)) (fun v104 g104 => ?_)
              refine sg rfl rfl rfl (fun g => (yGtr (g100.1 g) (g104.1 g))) (fun v105 g105 => ?_)
              refine sv (yAnd rfl (fun hB => (g105.1 hB)) rfl) ?_
              refine sv (yAsg rfl) ?_
              refine nil ?_
              show Code.wp _ _ _ _ _
              refine cond rfl (fun c97 => ?_) (fun c97 => ?_)
              ·
                simp only [Bool.and_eq_true, Bool.or_eq_true, Bool.and_eq_false_iff, Bool.or_eq_false_iff, decide_eq_true_eq, decide_eq_false_iff_not, Bool.not_eq_true, Bool.not_eq_false, Bool.not_not, Bool.not_eq_eq_eq_not, Bool.not_true, Bool.not_false, Bool.false_eq_true, Bool.true_eq_false, ne_eq, Decidable.not_not, not_false_eq_true, not_true_eq_false] at c97
                have hjf2 := hjf3.trans (congrArg _ (fltJ_2 (i := k) c97.1 (fltJ_or c82 c97.1) c97.2))
                refine region ?_
                refine sv (yMove h8) ?_
                refine sv (yMove h12) ?_
                refine sv (yBuild Try.zeroValue98 rfl pl98 (.cons rfl rfl (.cons rfl rfl .nil)) rfl) ?_
                refine sbslice hS Try.underlying91 Try.sizeOf98 rfl Try.zeroValue98 rfl (.cons rfl rfl .nil) rfl ?_; clear hS; intro b110 w hS
                refine sapp (bytes := 16) (size := 2) (v := fv) (m := 1) hS rfl rfl Try.underlying91 ti98 rfl rfl rfl rfl (by decide) (blk_cells (hS.at _)) rfl rfl (by omega) (by omega) ?_; clear hS; intro v111 w hS
                refine sv (yAsg rfl) ?_
                refine nil ?_
                show Code.wp _ _ _ _ _
                refine region ?_
                refine sv (yAdd h47 rfl ⟨by omega, by omega⟩) ?_
                refine sv (yMove rfl) ?_
                refine nil ?_
                exact ⟨_, _, rfl, ⟨k + 1, (some ⟨gl, 0, none⟩), cl, v111, setM M (k : Int) (.int .i64 o.tm), h11, h45, h46, rfl, rfl, (by rw [hjl2]; exact h10), (by rw [hjl2, hjf2, List.flatMap_append, List.length_append]; exact hS.sub (.cons _ (.cons _ (List.Sublist.refl _)))), (by omega), (by rw [hjd2]; exact mapJ_some hM (judN_len s start _ k)), rfl⟩, by omega⟩
              ·
                simp only [Bool.and_eq_true, Bool.or_eq_true, Bool.and_eq_false_iff, Bool.or_eq_false_iff, decide_eq_true_eq, decide_eq_false_iff_not, Bool.not_eq_true, Bool.not_eq_false, Bool.not_not, Bool.not_eq_eq_eq_not, Bool.not_true, Bool.not_false, Bool.false_eq_true, Bool.true_eq_false, ne_eq, Decidable.not_not, not_false_eq_true, not_true_eq_false] at c97
                have hjf2 := (hjf3.trans (congrArg _ (fltJ_0 (i := k) c82 c97))).trans (List.append_nil _)
                refine skip ?_
                show Code.wp _ _ _ _ _
                refine region ?_
                refine sv (yAdd h47 rfl ⟨by omega, by omega⟩) ?_
                refine sv (yMove rfl) ?_
                refine nil ?_
                exact ⟨_, _, rfl, ⟨k + 1, (some ⟨gl, 0, none⟩), cl, fv, setM M (k : Int) (.int .i64 o.tm), h11, h45, h46, rfl, h8, (by rw [hjl2]; exact h10), (by rw [hjl2, hjf2]; exact hS.sub (.cons _ (List.Sublist.refl _))), (by omega), (by rw [hjd2]; exact mapJ_some hM (judN_len s start _ k)), rfl⟩, by omega⟩
        ·
          simp only [Bool.and_eq_true, Bool.or_eq_true, Bool.and_eq_false_iff, Bool.or_eq_false_iff, decide_eq_true_eq, decide_eq_false_iff_not, Bool.not_eq_true, Bool.not_eq_false, Bool.not_not, Bool.not_eq_eq_eq_not, Bool.not_true, Bool.not_false, Bool.false_eq_true, Bool.true_eq_false, ne_eq, Decidable.not_not, not_false_eq_true, not_true_eq_false] at c48
          refine exit ?_
          show Code.wp _ _ _ _ _
          refine seq ?_
          refine region ?_
          refine sv (yMove h8) ?_
          refine sv (yAsg rfl) ?_
          refine sv (yAsg rfl) ?_
          refine nil ?_
          show Code.wp _ _ _ _ _
          refine wp_ret ?_
          refine retQ (res2 rfl rfl rfl) ?_
          obtain rfl : k = s.steps.length := by omega
          exact ⟨fv, by (rw [hfin.1]; try rfl), by rw [hfin.2]; exact hS.sub (.cons_cons _ (List.nil_sublist _))⟩
end Go.Proofs.Ytghgnofilbnbaaa
/- part C28 -/
namespace Bx
open Go Go.RowKit
def AllOk (c : Crew) (acts : List Acn) : Prop := ∀ (j : Nat) y, acts[j]? = some y → ActOk c j y
def roomL (c : Crew) (acts : List Acn) : Rm := (plN c acts acts.length).2
theorem allOk_snoc {c : Crew} {acts : List Acn} {a : Acn} (h : AllOk c acts) (ha : ActOk c acts.length a) : AllOk c (acts ++ [a]) := by
  intro j y hy
  by_cases hj : j < acts.length
  · rw [List.getElem?_append_left hj] at hy; exact h j y hy
  · have hl := (List.getElem?_eq_some_iff.1 hy).1
    rw [List.length_append, List.length_singleton] at hl
    obtain rfl : j = acts.length := by omega
    rw [List.getElem?_append_right (Nat.le_refl _), Nat.sub_self] at hy
    obtain rfl : a = y := by simpa using hy
    exact ha
theorem room_snoc {c : Crew} {acts : List Acn} {a : Acn} (h : AllOk c acts) (ha : ActOk c acts.length a) : roomL c (acts ++ [a]) = (doF c (acts ++ [a]) acts.length a (roomL c acts)).2 := by
  have hx : (acts ++ [a])[acts.length]? = some a := by rw [List.getElem?_append_right (Nat.le_refl _), Nat.sub_self]; rfl
  have e := plN_take (allOk_snoc h ha) (k := acts.length) (by simp) acts.length (Nat.le_refl _)
  rw [List.take_left' rfl] at e
  unfold roomL
  rw [List.length_append, List.length_singleton, plN_succ hx, e]
/-- The room after some acts: nobody holds what hold does not say, the open ones, the orders. -/
structure Cl (c : Crew) (acts : List Acn) (tm : Int) (hold opn : List Int) (ords : List Ord) : Prop where
  ok : AllOk c acts
  rm : ∃ now, now ≤ tm ∧ roomL c acts = ⟨now, hold, opn, ords⟩
theorem Cl.up {c : Crew} {acts : List Acn} {tm tm' : Int} {hold opn : List Int} {ords : List Ord} (h : Cl c acts tm hold opn ords) (ht : tm ≤ tm') : Cl c acts tm' hold opn ords :=
  ⟨h.ok, by obtain ⟨n, h1, h2⟩ := h.rm; exact ⟨n, by omega, h2⟩⟩
theorem Cl.nil (c : Crew) (tm : Int) (h : 0 ≤ tm) : Cl c [] tm (List.replicate c.keys.length (-1)) [] [] := ⟨fun j y hy => by simp at hy, 0, h, rfl⟩
theorem Cl.act {c : Crew} {acts : List Acn} {tm : Int} {hold opn : List Int} {ords : List Ord} (h : Cl c acts tm hold opn ords) {a : Acn} {hold' opn' : List Int} {ords' : List Ord} (ha : ActOk c acts.length a) (ht : a.tm = tm) (hd : dutyA c a = true)
    (hs : (doneF c (acts ++ [a]) acts.length a ⟨tm, hold, opn, ords⟩).2 = ⟨tm, hold', opn', ords'⟩) : Cl c (acts ++ [a]) tm hold' opn' ords' := by
  refine ⟨allOk_snoc h.ok ha, tm, Int.le_refl _, ?_⟩
  obtain ⟨n, h1, h2⟩ := h.rm
  rw [room_snoc h.ok ha, h2]
  unfold doF
  rw [if_neg (by show ¬ a.tm < n; omega), if_neg (by rw [hd]; decide)]
  show (doneF c (acts ++ [a]) acts.length a ⟨a.tm, hold, opn, ords⟩).2 = _
  rw [ht]; exact hs
structure Who (c : Crew) (tm i : Int) : Prop where
  wt : 0 ≤ tm ∧ tm ≤ 100000
  ww : 0 ≤ i ∧ i < c.ops.length
  on : onB c i tm = true
theorem Who.duty {c : Crew} {tm i dw what subj : Int} (h : Who c tm i) (hd : dw ≠ 2) : dutyA c ⟨tm, i, dw, what, 0, subj⟩ = true := by
  unfold dutyA
  simp only [h.on, Bool.true_and, Bool.or_eq_true, decide_eq_true_eq]
  exact .inl hd
theorem Who.zero {c : Crew} {tm i : Int} (h : Who c tm i) : (0 : Int) ≤ 0 ∧ (0 : Int) < c.ops.length := by have := h.ww; omega
theorem d00 : (0 : Int) ≤ 0 ∧ (0 : Int) ≤ 1000 := by decide
theorem dd1 : (1 : Int) ≤ 1 ∧ (1 : Int) ≤ 6 := by decide
theorem dd3 : (1 : Int) ≤ 3 ∧ (3 : Int) ≤ 6 := by decide
theorem dd4 : (1 : Int) ≤ 4 ∧ (4 : Int) ≤ 6 := by decide
theorem dd5 : (1 : Int) ≤ 5 ∧ (5 : Int) ≤ 6 := by decide
theorem Cl.take {c : Crew} {acts : List Acn} {tm : Int} {hold opn : List Int} {ords : List Ord} (h : Cl c acts tm hold opn ords) {who k : Int} (hw : Who c tm who) (hk : 0 ≤ k ∧ k < c.keys.length) (hh : holdAt hold k < 0) : Cl c (acts ++ [⟨tm, who, 1, k, 0, 0⟩]) tm (hold.set k.toNat who) opn ords := by
  refine h.act ⟨hw.wt, hw.ww, dd1, by rw [show manyA c acts.length ⟨tm, who, 1, k, 0, 0⟩ = c.keys.length from rfl]; exact hk, hw.zero, d00, fun _ => rfl, fun _ => rfl, fun e => by cases e⟩ rfl (hw.duty (by decide)) ?_
  show (takeF c _ _).2 = _
  unfold takeF
  rw [if_neg]
  simp only [Bool.not_eq_false, Bool.or_eq_true, decide_eq_true_eq]
  exact .inl hh
theorem Cl.put {c : Crew} {acts : List Acn} {tm : Int} {hold opn : List Int} {ords : List Ord} (h : Cl c acts tm hold opn ords) {who k : Int} (hw : Who c tm who) (hk : 0 ≤ k ∧ k < c.keys.length) (hh : holdAt hold k = who) : Cl c (acts ++ [⟨tm, who, 3, k, 0, 0⟩]) tm (hold.set k.toNat (-1)) opn ords := by
  refine h.act ⟨hw.wt, hw.ww, dd3, by rw [show manyA c acts.length ⟨tm, who, 3, k, 0, 0⟩ = c.keys.length from rfl]; exact hk, hw.zero, d00, fun _ => rfl, fun _ => rfl, fun e => by cases e⟩ rfl (hw.duty (by decide)) ?_
  show (giveF _ _ _).2 = _
  unfold giveF
  rw [if_neg (not_not_intro hh)]
theorem ordA_ok {c : Crew} {n : Nat} {tm who k subj : Int} (hw : Who c tm who) (hk : 0 ≤ k ∧ k < c.kinds.length) (hs : 0 ≤ subj ∧ subj ≤ 1000) : ActOk c n ⟨tm, who, 4, k, 0, subj⟩ :=
  ⟨hw.wt, hw.ww, dd4, by rw [show manyA c n ⟨tm, who, 4, k, 0, subj⟩ = c.kinds.length from rfl]; exact hk, hw.zero, hs, fun e => absurd rfl e, fun _ => rfl, fun e => by cases e⟩
theorem Cl.ord1 {c : Crew} {acts : List Acn} {tm : Int} {hold opn : List Int} {ords : List Ord} (h : Cl c acts tm hold opn ords) {who k subj : Int} (hw : Who c tm who) (hk : 0 ≤ k ∧ k < c.kinds.length) (hs : 0 ≤ subj ∧ subj ≤ 1000) (hg : (kndAt c k).grade ≤ gradeOf c who) (h0 : (kndAt c k).second = 0) (hh : ∀ n ∈ (kndAt c k).keys, holdAt hold n = who) :
    Cl c (acts ++ [⟨tm, who, 4, k, 0, subj⟩]) tm hold opn (ords ++ [⟨acts.length, -1, k, subj, tm⟩]) := by
  refine h.act (ordA_ok hw hk hs) rfl (hw.duty (by decide)) ?_
  show (orderF c _ _ _).2 = _
  unfold orderF
  simp only []
  rw [if_neg (by show ¬ gradeOf c who < (kndAt c k).grade; omega), if_neg (by show ¬ 0 < (kndAt c k).second; omega), if_neg]
  show ¬ allH hold [who] (kndAt c k).keys = false
  rw [allH_one.2 hh]; decide
theorem Cl.ord2 {c : Crew} {acts : List Acn} {tm : Int} {hold opn : List Int} {ords : List Ord} (h : Cl c acts tm hold opn ords) {who k subj : Int} (hw : Who c tm who) (hk : 0 ≤ k ∧ k < c.kinds.length) (hs : 0 ≤ subj ∧ subj ≤ 1000) (hg : (kndAt c k).grade ≤ gradeOf c who) (h0 : 0 < (kndAt c k).second) :
    Cl c (acts ++ [⟨tm, who, 4, k, 0, subj⟩]) tm hold (opn ++ [(acts.length : Int)]) ords := by
  refine h.act (ordA_ok hw hk hs) rfl (hw.duty (by decide)) ?_
  show (orderF c _ _ _).2 = _
  unfold orderF
  simp only []
  rw [if_neg (by show ¬ gradeOf c who < (kndAt c k).grade; omega), if_pos h0]
theorem Cl.conf {c : Crew} {acts : List Acn} {tm : Int} {hold : List Int} {ords : List Ord} {g : Nat} (h : Cl c acts tm hold [(g : Int)] ords) (hc : CrewOk c) {who sec k subj : Int} (hg : acts[g]? = some ⟨tm, who, 4, k, 0, subj⟩) (hw : Who c tm who) (hq : Who c tm sec) (hne : sec ≠ who) (hk : 0 ≤ k ∧ k < c.kinds.length) (h2 : (kndAt c k).second ≤ gradeOf c sec)
    (hh : ∀ n ∈ (kndAt c k).keys, holdAt hold n = sec ∨ holdAt hold n = who) (hsp : (kndAt c k).split = true → (∃ n ∈ (kndAt c k).keys, holdAt hold n = sec) ∧ ∃ n ∈ (kndAt c k).keys, holdAt hold n = who) :
    Cl c (acts ++ [⟨tm, sec, 5, g, 0, 0⟩]) tm hold [] (ords ++ [⟨g, acts.length, k, subj, tm⟩]) := by
  have hgl := (List.getElem?_eq_some_iff.1 hg).1
  have ho : actAt (acts ++ [⟨tm, sec, 5, g, 0, 0⟩]) (g : Int) = ⟨tm, who, 4, k, 0, subj⟩ := actAt_nat (by rw [List.getElem?_append_left hgl]; exact hg)
  refine h.act ⟨hq.wt, hq.ww, dd5, by rw [show manyA c acts.length ⟨tm, sec, 5, g, 0, 0⟩ = acts.length from rfl]; exact ⟨by show (0 : Int) ≤ (g : Int); omega, by show (g : Int) < _; omega⟩, hq.zero, d00, fun _ => rfl, fun _ => rfl, fun e => by cases e⟩ rfl (hq.duty (by decide)) ?_
  have hko := kndAt_ok hc hk
  have hce : confE c (acts ++ [⟨tm, sec, 5, g, 0, 0⟩]) ⟨tm, sec, 5, g, 0, 0⟩ ⟨tm, hold, [(g : Int)], ords⟩ = 0 := by
    unfold confE
    simp only []
    rw [ho]
    simp only []
    rw [if_neg (by simp), if_neg (by have := hko.within; omega), if_neg hne, if_neg (by omega), if_neg (by rw [hw.on]; decide), if_neg]
    rw [allH_two.2 hh, Bool.true_and]
    simp only [Bool.not_eq_false, Bool.or_eq_true, Bool.not_eq_true', decide_eq_true_eq]
    cases hs : (kndAt c k).split with
    | false => exact .inl rfl
    | true => exact .inr ((split_two hne).2 (hsp hs))
  show (confirmF c _ _ _ _).2 = _
  unfold confirmF
  rw [if_neg (not_not_intro hce)]
  simp only []
  rw [ho]
  simp
/-! ### the keys of a kind, taken one by one and put back -/
structure Hd (n : Nat) (keys : List Int) (b : Nat → Int) (p : Nat → Bool) (hold : List Int) : Prop where
  len : hold.length = n
  at_ : ∀ (j : Nat) k, keys[j]? = some k → holdAt hold k = if p j = true then b j else -1
  out : ∀ m : Nat, m < n → (m : Int) ∉ keys → holdAt hold m = -1
theorem holdAt_set {hold : List Int} {a k v : Int} (ha : 0 ≤ a ∧ a < hold.length) (hk : 0 ≤ k) : holdAt (hold.set a.toNat v) k = if k = a then v else holdAt hold k := by
  unfold holdAt
  rw [List.getD_eq_getElem?_getD, List.getElem?_set]
  by_cases e : k = a
  · subst e
    rw [if_pos rfl, if_pos rfl, if_pos (by omega)]; rfl
  · rw [if_neg (by omega), if_neg e, ← List.getD_eq_getElem?_getD]
theorem Hd.set {n : Nat} {keys : List Int} {b : Nat → Int} {p q : Nat → Bool} {hold : List Int} (h : Hd n keys b p hold) (hr : ∀ k ∈ keys, 0 ≤ k ∧ k < n) (hn : keys.Nodup) {j : Nat} {k v : Int} (hk : keys[j]? = some k) (hv : v = if q j = true then b j else -1) (hq : ∀ i, i ≠ j → q i = p i) : Hd n keys b q (hold.set k.toNat v) := by
  have hkr := hr k (List.mem_of_getElem? hk)
  have hl := h.len
  refine ⟨by rw [List.length_set]; exact hl, fun i k' hi => ?_, fun m hm hnot => ?_⟩
  · have hir := hr k' (List.mem_of_getElem? hi)
    rw [holdAt_set (by omega) hir.1]
    by_cases e : i = j
    · subst e
      obtain rfl : k' = k := Option.some.inj (hi.symm.trans hk)
      rw [if_pos rfl]; exact hv
    · rw [if_neg, hq i e]
      · exact h.at_ i k' hi
      · intro e'
        subst e'
        exact e ((List.getElem?_inj (List.getElem?_eq_some_iff.1 hi).1 hn).1 (hi.trans hk.symm))
  · rw [holdAt_set (by omega) (by omega), if_neg]
    · exact h.out m hm hnot
    · intro e
      exact hnot (by rw [e]; exact List.mem_of_getElem? hk)
theorem Hd.none {n : Nat} {keys : List Int} {b : Nat → Int} {p : Nat → Bool} {hold : List Int} (h : Hd n keys b p hold) (hp : ∀ j, j < keys.length → p j = false) : hold = List.replicate n (-1) := by
  refine List.ext_getElem (by rw [h.len, List.length_replicate]) fun m h1 h2 => ?_
  rw [List.getElem_replicate]
  have hl := h.len
  have e : holdAt hold (m : Int) = hold[m] := by
    unfold holdAt
    rw [Int.toNat_natCast]
    exact getD_hit (List.getElem?_eq_getElem h1)
  rw [← e]
  by_cases hm : (m : Int) ∈ keys
  · obtain ⟨j, hj, e2⟩ := List.getElem_of_mem hm
    have := h.at_ j m (by rw [List.getElem?_eq_getElem hj, e2])
    rw [hp j hj] at this
    simpa using this
  · exact h.out m (by omega) hm
theorem Hd.start (n : Nat) (keys : List Int) (b : Nat → Int) (hr : ∀ k ∈ keys, 0 ≤ k ∧ k < n) : Hd n keys b (fun _ => false) (List.replicate n (-1)) := by
  have e : ∀ k : Int, holdAt (List.replicate n (-1)) k = -1 := fun k => by
    unfold holdAt
    rcases getD_mem (l := List.replicate n (-1 : Int)) (i := k.toNat) (d := -1) with h | h
    · exact (List.mem_replicate.1 h).2
    · exact h
  exact ⟨List.length_replicate, fun j k _ => by rw [e]; rfl, fun m _ _ => e _⟩
/-! ### the acts of a step -/
def byA (x : Knd) (who sec : Int) (k : Int) : Int := if (x.split && decide (k = 0)) = true then sec else who
def keyA (x : Knd) (tm who sec dw : Int) (k : Nat) : List Acn := (List.range k).map fun (j : Nat) => ⟨tm, byA x who sec j, dw, x.keys.getD j 0, 0, 0⟩
def givA (l : List Acn) (x : Knd) (tm who sec : Int) : List Acn := l ++ keyA x tm who sec 1 x.keys.length
def ordA (l : List Acn) (x : Knd) (s : Stp) (tm who sec : Int) : List Acn := givA l x tm who sec ++ [⟨tm, who, 4, s.kind, 0, s.subj⟩]
def conA (l : List Acn) (x : Knd) (s : Stp) (tm who sec : Int) : List Acn := if 0 < x.second then ordA l x s tm who sec ++ [⟨tm, sec, 5, ((givA l x tm who sec).length : Int), 0, 0⟩] else ordA l x s tm who sec
def doneA (l : List Acn) (x : Knd) (s : Stp) (tm who sec : Int) : List Acn := conA l x s tm who sec ++ keyA x tm who sec 3 x.keys.length
theorem keyA_succ {x : Knd} {tm who sec dw v : Int} {k : Nat} (h : x.keys[k]? = some v) : keyA x tm who sec dw (k + 1) = keyA x tm who sec dw k ++ [⟨tm, byA x who sec k, dw, v, 0, 0⟩] := by
  unfold keyA
  rw [List.range_succ, List.map_append, List.map_singleton, getD_hit h]
theorem keyA_len {x : Knd} {tm who sec dw : Int} {k : Nat} : (keyA x tm who sec dw k).length = k := by simp [keyA]
theorem conA_len {l : List Acn} {x : Knd} {s : Stp} {tm who sec : Int} : (conA l x s tm who sec).length ≤ l.length + x.keys.length + 2 := by
  unfold conA ordA givA
  split <;> simp only [List.length_append, List.length_singleton, keyA_len] <;> omega
theorem doneA_len {l : List Acn} {x : Knd} {s : Stp} {tm who sec : Int} : (doneA l x s tm who sec).length ≤ l.length + 2 * x.keys.length + 2 := by
  have := conA_len (l := l) (x := x) (s := s) (tm := tm) (who := who) (sec := sec)
  unfold doneA
  rw [List.length_append, keyA_len]; omega
/-- A pair that is able. -/
structure Pair (c : Crew) (x : Knd) (tm who sec : Int) : Prop where
  pw : Who c tm who
  pg : x.grade ≤ gradeOf c who
  ps : x.second ≠ 0 → Who c tm sec ∧ sec ≠ who ∧ x.second ≤ gradeOf c sec
theorem pairs_mem {c : Crew} {x : Knd} {m : Int} (hm : 0 ≤ m ∧ m ≤ 100000) {p : Int × Int} (hp : p ∈ pairsL c x m) : Pair c x m p.1 p.2 := by
  obtain ⟨i, hi, hp⟩ := List.mem_flatMap.1 hp
  rw [List.mem_range] at hi
  unfold rowP at hp
  split at hp
  · rename_i hf
    unfold fitB at hf
    rw [Bool.and_eq_true, decide_eq_true_eq] at hf
    split at hp
    · rename_i h0
      obtain rfl := List.mem_singleton.1 hp
      exact ⟨⟨hm, ⟨by show (0 : Int) ≤ i; omega, by show (i : Int) < _; omega⟩, hf.2⟩, hf.1, fun h => absurd h0 h⟩
    · obtain ⟨k, hk, rfl⟩ := List.mem_map.1 hp
      obtain ⟨h1, h2⟩ := List.mem_filter.1 hk
      have hk := List.mem_range.1 h1
      unfold fitB at h2
      simp only [Bool.and_eq_true, decide_eq_true_eq] at h2
      exact ⟨⟨hm, ⟨by show (0 : Int) ≤ i; omega, by show (i : Int) < _; omega⟩, hf.2⟩, hf.1, fun _ => ⟨⟨hm, ⟨by show (0 : Int) ≤ k; omega, by show (k : Int) < _; omega⟩, h2.2.2⟩, h2.1, h2.2.1⟩⟩
  · cases hp
theorem ableF_pair {c : Crew} {k m : Int} (hc : (checkC c).2.2 = 0) (hk : 0 ≤ k ∧ k < c.kinds.length) (h : (ableF c k m).2.2 = 0) : Pair c (kndAt c k) m (ableF c k m).1 (ableF c k m).2.1 := by
  have hm := ableF_min hc hk h
  have hE := ableE_ok hc hk hm
  cases hp : pairsL c (kndAt c k) m with
  | nil => rw [ableF_nil hE hp] at h; cases h
  | cons p l =>
    rw [ableF_cons hE hp]
    exact pairs_mem hm (by rw [hp]; exact List.mem_cons_self ..)
theorem Pair.by_ {c : Crew} {x : Knd} {nk : Int} (hx : KndOk nk x) {tm who sec : Int} (h : Pair c x tm who sec) (k : Int) : Who c tm (byA x who sec k) := by
  unfold byA
  split
  · rename_i hs
    rw [Bool.and_eq_true] at hs
    exact (h.ps (hx.split hs.1).1).1
  · exact h.pw
theorem keys_in {c : Crew} {x : Knd} (hx : KndOk c.keys.length x) : ∀ k ∈ x.keys, 0 ≤ k ∧ k < c.keys.length := fun k hk => by have := hx.keys k hk; omega
theorem Cl.takes {c : Crew} {l : List Acn} {x : Knd} {tm who sec : Int} {opn : List Int} {ords : List Ord} (hx : KndOk c.keys.length x) (hp : Pair c x tm who sec) (h : Cl c l tm (List.replicate c.keys.length (-1)) opn ords) :
    ∀ k, k ≤ x.keys.length → ∃ hold, Cl c (l ++ keyA x tm who sec 1 k) tm hold opn ords ∧ Hd c.keys.length x.keys (fun j => byA x who sec j) (fun j => decide (j < k)) hold
  | 0, _ => ⟨_, by show Cl c (l ++ []) _ _ _ _; rw [List.append_nil]; exact h, by
      have := Hd.start c.keys.length x.keys (fun j => byA x who sec j) (fun k hk => by have := keys_in hx k hk; omega)
      simpa using this⟩
  | k + 1, hk => by
    obtain ⟨hold, h1, h2⟩ := Cl.takes hx hp h k (by omega)
    have hv := List.getElem?_eq_getElem (show k < x.keys.length by omega)
    have hr := keys_in hx _ (List.mem_of_getElem? hv)
    rw [keyA_succ hv, ← List.append_assoc]
    refine ⟨_, h1.take (hp.by_ hx k) hr ?_, h2.set (keys_in hx) hx.nodup hv ?_ fun i hi => ?_⟩
    · rw [h2.at_ k _ hv, if_neg (by simp)]; decide
    · rw [if_pos (by simp)]
    · simp only [decide_eq_decide]; omega
theorem Cl.puts {c : Crew} {l : List Acn} {x : Knd} {tm who sec : Int} {hold opn : List Int} {ords : List Ord} (hx : KndOk c.keys.length x) (hp : Pair c x tm who sec) (h : Cl c l tm hold opn ords) (hh : Hd c.keys.length x.keys (fun j => byA x who sec j) (fun j => decide (0 ≤ j)) hold) :
    ∀ k, k ≤ x.keys.length → ∃ hold, Cl c (l ++ keyA x tm who sec 3 k) tm hold opn ords ∧ Hd c.keys.length x.keys (fun j => byA x who sec j) (fun j => decide (k ≤ j)) hold
  | 0, _ => ⟨_, by show Cl c (l ++ []) _ _ _ _; rw [List.append_nil]; exact h, hh⟩
  | k + 1, hk => by
    obtain ⟨hold, h1, h2⟩ := Cl.puts hx hp h hh k (by omega)
    have hv := List.getElem?_eq_getElem (show k < x.keys.length by omega)
    have hr := keys_in hx _ (List.mem_of_getElem? hv)
    rw [keyA_succ hv, ← List.append_assoc]
    refine ⟨_, h1.put (hp.by_ hx k) hr ?_, h2.set (keys_in hx) hx.nodup hv ?_ fun i hi => ?_⟩
    · rw [h2.at_ k _ hv, if_pos (by simp)]
    · rw [if_neg (by simp)]
    · simp only [decide_eq_decide]; omega
theorem Cl.done {c : Crew} {l : List Acn} {s : Stp} {tm who sec : Int} {ords : List Ord} (hc : CrewOk c) (hk : 0 ≤ s.kind ∧ s.kind < c.kinds.length) (hs : 0 ≤ s.subj ∧ s.subj ≤ 1000) (hp : Pair c (kndAt c s.kind) tm who sec) (h : Cl c l tm (List.replicate c.keys.length (-1)) [] ords) :
    ∃ o : Ord, (o.kind = s.kind ∧ o.subj = s.subj ∧ o.tm = tm) ∧ Cl c (doneA l (kndAt c s.kind) s tm who sec) tm (List.replicate c.keys.length (-1)) [] (ords ++ [o]) := by
  have hx := kndAt_ok hc hk
  obtain ⟨hold, h1, h2⟩ := Cl.takes hx hp h _ (Nat.le_refl _)
  have hat : ∀ n ∈ (kndAt c s.kind).keys, ∃ j : Nat, (kndAt c s.kind).keys[j]? = some n ∧ holdAt hold n = byA (kndAt c s.kind) who sec j := fun n hn => by
    obtain ⟨j, hj, e⟩ := List.getElem_of_mem hn
    have hv : (kndAt c s.kind).keys[j]? = some n := by rw [List.getElem?_eq_getElem hj, e]
    exact ⟨j, hv, by rw [h2.at_ j n hv, if_pos (by simpa using hj)]⟩
  have hall : Hd c.keys.length (kndAt c s.kind).keys (fun j => byA (kndAt c s.kind) who sec j) (fun j => decide (0 ≤ j)) hold := ⟨h2.len, fun j k hj => by rw [h2.at_ j k hj, if_pos (by simpa using (List.getElem?_eq_some_iff.1 hj).1), if_pos (by simp)], h2.out⟩
  have key : ∃ o : Ord, (o.kind = s.kind ∧ o.subj = s.subj ∧ o.tm = tm) ∧ Cl c (conA l (kndAt c s.kind) s tm who sec) tm hold [] (ords ++ [o]) := by
    unfold conA
    by_cases h0 : (kndAt c s.kind).second = 0
    · rw [if_neg (by omega)]
      refine ⟨_, ⟨rfl, rfl, rfl⟩, h1.ord1 hp.pw hk hs hp.pg h0 fun n hn => ?_⟩
      obtain ⟨j, _, e⟩ := hat n hn
      rw [e]
      unfold byA
      rw [if_neg]
      intro hsp
      rw [Bool.and_eq_true] at hsp
      exact (hx.split hsp.1).1 h0
    · have hse := hx.second
      rw [if_pos (by omega)]
      obtain ⟨q1, q2, q3⟩ := hp.ps h0
      have h3 := h1.ord2 hp.pw hk hs hp.pg (show 0 < (kndAt c s.kind).second by omega)
      rw [List.nil_append] at h3
      refine ⟨_, ⟨rfl, rfl, rfl⟩, h3.conf (subj := s.subj) hc ?_ hp.pw q1 q2 hk q3 (fun n hn => ?_) (fun hsp => ?_)⟩
      · rw [List.getElem?_append_right (Nat.le_refl _), Nat.sub_self]; rfl
      · obtain ⟨j, _, e⟩ := hat n hn
        rw [e]
        unfold byA
        split
        · exact .inl rfl
        · exact .inr rfl
      · obtain ⟨_, hl2⟩ := hx.split hsp
        have v0 := List.getElem?_eq_getElem (show 0 < (kndAt c s.kind).keys.length by omega)
        have v1 := List.getElem?_eq_getElem (show 1 < (kndAt c s.kind).keys.length by omega)
        refine ⟨⟨_, List.mem_of_getElem? v0, ?_⟩, _, List.mem_of_getElem? v1, ?_⟩
        · rw [hall.at_ 0 _ v0]; unfold byA; rw [hsp]; rfl
        · rw [hall.at_ 1 _ v1]; unfold byA; rw [hsp]; rfl
  obtain ⟨o, ho, h4⟩ := key
  obtain ⟨hold', h5, h6⟩ := Cl.puts hx hp h4 hall _ (Nat.le_refl _)
  refine ⟨o, ho, ?_⟩
  rw [← h6.none (fun j hj => by simpa using hj)]
  exact h5
end Bx
/- part C29 -/
namespace Bx
open Go Go.RowKit
abbrev cleanH (c : Crew) : List Int := List.replicate c.keys.length (-1)
structure DOrd (s : Scr) (p : List Int) (ords : List Ord) (last next : Int) (j : Nat) : Prop where
  src : ∀ o ∈ ords, ∃ (i : Nat) (x : Stp) (y : Int), s.steps[i]? = some x ∧ p[i]? = some y ∧ o.kind = x.kind ∧ o.subj = x.subj ∧ o.tm = y
  has : ∀ (i : Nat) (x : Stp) (y : Int), s.steps[i]? = some x → p[i]? = some y → (y ≤ last ∨ (y = next ∧ i < j)) → ∃ o ∈ ords, o.kind = x.kind ∧ o.subj = x.subj ∧ o.tm = y
def cntL (p : List Int) (last : Int) : Nat := p.countP fun y => decide (y ≤ last)
def cntJ (p : List Int) (last next : Int) (j : Nat) : Nat := cntL p last + (p.take j).countP fun y => decide (y = next)
structure DIn (c : Crew) (s : Scr) (p : List Int) (last next : Int) (j n : Nat) (acts : List Acn) : Prop where
  lt : last < next
  cnt : n = cntJ p last next j
  len : acts.length ≤ 18 * n
  cl : ∃ ords, Cl c acts next (cleanH c) [] ords ∧ DOrd s p ords last next j
structure DOut (c : Crew) (s : Scr) (p : List Int) (last : Int) (n : Nat) (acts : List Acn) : Prop where
  lo : -1 ≤ last ∧ last ≤ 100000
  cnt : n = cntL p last
  len : acts.length ≤ 18 * n
  cl : ∃ ords, Cl c acts (last + 1) (cleanH c) [] ords ∧ DOrd s p ords last last 0
theorem dOut_0 {c : Crew} {s : Scr} {p : List Int} (hp : ∀ y ∈ p, 0 ≤ y) : DOut c s p (-1) 0 [] := by
  refine ⟨by decide, ?_, by simp, [], Cl.nil c _ (by decide), fun o ho => (List.not_mem_nil ho).elim, fun i x y _ hy h => ?_⟩
  · unfold cntL
    symm
    rw [List.countP_eq_zero]
    intro y hy
    have := hp y hy
    simp; omega
  · have := hp y (List.mem_of_getElem? hy)
    omega
theorem dIn_0 {c : Crew} {s : Scr} {p : List Int} {last next : Int} {n : Nat} {acts : List Acn} (h : DOut c s p last n acts) (hn : last < next) : DIn c s p last next 0 n acts := by
  obtain ⟨h1, h2, h3, ords, h4, h5⟩ := h
  exact ⟨hn, by rw [h2]; rfl, h3, ords, h4.up (by omega), h5.src, fun i x y hx hy h => h5.has i x y hx hy (by omega)⟩
theorem cntJ_hit {p : List Int} {last next y : Int} {j : Nat} (hy : p[j]? = some y) (h : y = next) : cntJ p last next (j + 1) = cntJ p last next j + 1 := by
  unfold cntJ
  rw [take_snoc hy, List.countP_append, List.countP_singleton, if_pos (by simpa using h)]; omega
theorem cntJ_skip {p : List Int} {last next y : Int} {j : Nat} (hy : p[j]? = some y) (h : y ≠ next) : cntJ p last next (j + 1) = cntJ p last next j := by
  unfold cntJ
  rw [take_snoc hy, List.countP_append, List.countP_singleton, if_neg (by simpa using h)]; omega
theorem dIn_skip {c : Crew} {s : Scr} {p : List Int} {last next y : Int} {j n : Nat} {acts : List Acn} (h : DIn c s p last next j n acts) (hy : p[j]? = some y) (hn : y ≠ next) : DIn c s p last next (j + 1) n acts := by
  obtain ⟨h1, h2, h3, ords, h4, h5⟩ := h
  refine ⟨h1, by rw [h2, cntJ_skip hy hn], h3, ords, h4, h5.src, fun i x z hx hz h => h5.has i x z hx hz ?_⟩
  rcases h with h | ⟨e, hi⟩
  · exact .inl h
  · refine .inr ⟨e, ?_⟩
    rcases Nat.lt_or_ge i j with h | h
    · exact h
    · obtain rfl : i = j := by omega
      exact absurd ((Option.some.inj (hy.symm.trans hz)).trans e) hn
theorem dIn_do {c : Crew} {s : Scr} {p : List Int} {last next : Int} {j n : Nat} {acts : List Acn} {x : Stp} {who sec : Int} (h : DIn c s p last next j n acts) (hs : ScrOk c s) (hy : p[j]? = some next) (hx : s.steps[j]? = some x) (hp : Pair c (kndAt c x.kind) next who sec) : DIn c s p last next (j + 1) (n + 1) (doneA acts (kndAt c x.kind) x next who sec) := by
  obtain ⟨h1, h2, h3, ords, h4, h5⟩ := h
  have hst := hs.steps j x hx
  have hko := kndAt_ok hs.crew hst.kind
  have hkl : (kndAt c x.kind).keys.length ≤ 8 := by
    have hnk := hs.crew.nkeys
    have hsub : ((kndAt c x.kind).keys.map Int.toNat).Nodup := by
      rw [List.nodup_iff_pairwise_ne, List.pairwise_map]
      refine List.Pairwise.imp_of_mem (fun {a b} ha hb hne e => ?_) hko.nodup
      have := keys_in hko a ha
      have := keys_in hko b hb
      exact hne (by omega)
    have := hsub.length_le_of_subset (l₂ := List.range c.keys.length) (fun m hm => by
      obtain ⟨k, hk, rfl⟩ := List.mem_map.1 hm
      have := keys_in hko k hk
      exact List.mem_range.2 (by omega))
    rw [List.length_map, List.length_range] at this
    omega
  obtain ⟨o, ⟨o1, o2, o3⟩, h6⟩ := Cl.done hs.crew hst.kind hst.subj hp h4
  refine ⟨h1, by rw [h2, cntJ_hit hy rfl], ?_, ords ++ [o], h6, fun o' ho' => ?_, fun i y z hy' hz h => ?_⟩
  · have := doneA_len (l := acts) (x := kndAt c x.kind) (s := x) (tm := next) (who := who) (sec := sec)
    omega
  · rcases List.mem_append.1 ho' with ho' | ho'
    · exact h5.src o' ho'
    · obtain rfl := List.mem_singleton.1 ho'
      exact ⟨j, x, next, hx, hy, o1, o2, o3⟩
  · by_cases hij : i = j
    · subst hij
      obtain rfl := Option.some.inj (hx.symm.trans hy')
      obtain rfl := Option.some.inj (hy.symm.trans hz)
      exact ⟨o, List.mem_append_right _ (List.mem_singleton_self _), o1, o2, o3⟩
    · obtain ⟨o', q1, q2⟩ := h5.has i y z hy' hz (by omega)
      exact ⟨o', List.mem_append_left _ q1, q2⟩
theorem dIn_end {c : Crew} {s : Scr} {p : List Int} {last next : Int} {j n : Nat} {acts : List Acn} (h : DIn c s p last next j n acts) (hj : p.length ≤ j) (hl : ∀ y ∈ p, y ≤ last ∨ next ≤ y) (h0 : -1 ≤ last) (h9 : next ≤ 100000) : DOut c s p next n acts := by
  obtain ⟨h1, h2, h3, ords, h4, h5⟩ := h
  refine ⟨by omega, ?_, h3, ords, h4.up (by omega), h5.src, fun i x y hx hy h => h5.has i x y hx hy ?_⟩
  · rw [h2]
    unfold cntJ cntL
    rw [List.take_of_length_le hj]
    clear h2 h3 h4 h5 hj
    induction p with
    | nil => rfl
    | cons y p ih =>
      have ih := ih (fun z hz => hl z (List.mem_cons_of_mem _ hz))
      have hy := hl y (List.mem_cons_self ..)
      rw [List.countP_cons, List.countP_cons, List.countP_cons]
      by_cases a : y ≤ last
      · rw [if_pos (by simpa using a), if_neg (by simp; omega), if_pos (by simp; omega)]; omega
      · by_cases b : y = next
        · rw [if_neg (by simpa using a), if_pos (by simpa using b), if_pos (by simp; omega)]; omega
        · rw [if_neg (by simpa using a), if_neg (by simpa using b), if_neg (by simp; omega)]; omega
  · have := hl y (List.mem_of_getElem? hy)
    have := (List.getElem?_eq_some_iff.1 hy).1
    omega
/-! ### the next minute -/
def nxN (p : List Int) (last : Int) : Nat → Int
  | 0 => 100001
  | k + 1 => if last < p.getD k 0 then min (nxN p last k) (p.getD k 0) else nxN p last k
theorem nxN_hit {p : List Int} {last y : Int} {k : Nat} (hy : p[k]? = some y) (h : last < y) : nxN p last (k + 1) = min (nxN p last k) y := by
  rw [nxN, getD_hit hy, if_pos h]
theorem nxN_skip {p : List Int} {last y : Int} {k : Nat} (hy : p[k]? = some y) (h : ¬ last < y) : nxN p last (k + 1) = nxN p last k := by
  rw [nxN, getD_hit hy, if_neg h]
theorem nxN_spec {p : List Int} {last : Int} (hl : last ≤ 100000) : ∀ k, k ≤ p.length → (last < nxN p last k ∧ nxN p last k ≤ 100001) ∧ (∀ (j : Nat) y, j < k → p[j]? = some y → last < y → nxN p last k ≤ y)
  | 0, _ => ⟨⟨by show last < 100001; omega, Int.le_refl _⟩, fun j y h => absurd h (by omega)⟩
  | k + 1, hk => by
    obtain ⟨h1, h2⟩ := nxN_spec (p := p) hl k (by omega)
    have hy := List.getElem?_eq_getElem (show k < p.length by omega)
    by_cases h : last < p[k]
    · rw [nxN_hit hy h]
      refine ⟨by omega, fun j y hj hy' h' => ?_⟩
      by_cases e : j = k
      · subst e
        obtain rfl := Option.some.inj (hy.symm.trans hy')
        omega
      · have := h2 j y (by omega) hy' h'; omega
    · rw [nxN_skip hy h]
      refine ⟨h1, fun j y hj hy' h' => ?_⟩
      by_cases e : j = k
      · subst e
        obtain rfl := Option.some.inj (hy.symm.trans hy')
        omega
      · exact h2 j y (by omega) hy' h'
abbrev nxA (p : List Int) (last : Int) : Int := nxN p last p.length
theorem nx_split {p : List Int} {last : Int} (hl : last ≤ 100000) : ∀ y ∈ p, y ≤ last ∨ nxA p last ≤ y := fun y hy => by
  obtain ⟨j, hj, e⟩ := List.getElem_of_mem hy
  by_cases h : y ≤ last
  · exact .inl h
  · exact .inr ((nxN_spec hl p.length (Nat.le_refl _)).2 j y hj (by rw [List.getElem?_eq_getElem hj, e]) (by omega))
theorem nx_le {c : Crew} {s : Scr} {p : List Int} {last : Int} {n : Nat} {acts : List Acn} (h : DOut c s p last n acts) (hp : ∀ y ∈ p, y ≤ 100000) (hn : n < p.length) : last < nxA p last ∧ nxA p last ≤ 100000 := by
  have hl := h.lo
  refine ⟨(nxN_spec hl.2 p.length (Nat.le_refl _)).1.1, ?_⟩
  have he : ∃ y ∈ p, ¬ y ≤ last := by
    refine Classical.byContradiction fun hno => ?_
    have : cntL p last = p.length := by
      unfold cntL
      rw [List.countP_eq_length]
      intro y hy
      refine decide_eq_true (Classical.byContradiction fun hh => hno ⟨y, hy, hh⟩)
    have := h.cnt
    omega
  obtain ⟨y, hy, hh⟩ := he
  have := nx_split hl.2 y hy
  have := hp y hy
  omega
/-! ### the judge -/
def DistS (s : Scr) : Prop := ∀ (i k : Nat) (x y : Stp), k < i → s.steps[i]? = some x → s.steps[k]? = some y → ¬ (y.kind = x.kind ∧ y.subj = x.subj)
theorem dist_eq {s : Scr} (h : DistS s) {i k : Nat} {x y : Stp} (hx : s.steps[i]? = some x) (hy : s.steps[k]? = some y) (e : y.kind = x.kind ∧ y.subj = x.subj) : i = k := by
  rcases Nat.lt_trichotomy i k with h1 | h1 | h1
  · exact absurd ⟨e.1.symm, e.2.symm⟩ (h k i y x h1 hy hx)
  · exact h1
  · exact absurd e (h i k x y h1 hx hy)
structure JInv (s : Scr) (p : List Int) (l0 : List Ord) (k : Nat) (st : Jd) : Prop where
  flt : st.flt = []
  done : st.done = (p.take k).map some
  sub : ∀ o ∈ st.left, o ∈ l0
  has : ∀ (i : Nat) (x : Stp) (y : Int), k ≤ i → s.steps[i]? = some x → p[i]? = some y → ∃ o ∈ st.left, o.kind = x.kind ∧ o.subj = x.subj ∧ o.tm = y
theorem jInv {c : Crew} {s : Scr} {start : Int} {p : List Int} {l0 : List Ord} (hs : ScrOk c s) (hd : DistS s) (ha : AllowP c s start p) (hsrc : ∀ o ∈ l0, ∃ (i : Nat) (x : Stp) (y : Int), s.steps[i]? = some x ∧ p[i]? = some y ∧ o.kind = x.kind ∧ o.subj = x.subj ∧ o.tm = y)
    (hhas : ∀ (i : Nat) (x : Stp) (y : Int), s.steps[i]? = some x → p[i]? = some y → ∃ o ∈ l0, o.kind = x.kind ∧ o.subj = x.subj ∧ o.tm = y) : ∀ k, k ≤ s.steps.length → JInv s p l0 k (judN s start l0 k)
  | 0, _ => ⟨rfl, rfl, fun o h => h, fun i x y _ hx hy => hhas i x y hx hy⟩
  | k + 1, hk => by
    have ih := jInv hs hd ha hsrc hhas k (by omega)
    have hx := List.getElem?_eq_getElem (show k < s.steps.length by omega)
    have hy := List.getElem?_eq_getElem (show k < p.length by rw [ha.len]; omega)
    generalize s.steps[k]'(by omega) = x at hx
    generalize p[k]'(by rw [ha.len]; omega) = y at hy
    rw [judN_succ hx]
    generalize judN s start l0 k = st at ih ⊢
    obtain ⟨o, ho, e1, e2, e3⟩ := ih.has k x y (Nat.le_refl _) hx hy
    have hhit : hitO x o = true := by unfold hitO; rw [Bool.and_eq_true, decide_eq_true_eq, decide_eq_true_eq]; exact ⟨e1, e2⟩
    rcases idxF_spec (hitO x) st.left 0 (Int.le_refl _) with ⟨_, h2⟩ | ⟨q, _, h2, _, o', h3, h4⟩
    · rw [← h2] at ho
      have := (List.mem_filter.1 ho).2
      rw [hhit] at this
      cases this
    · rw [judS_yes (by omega) h3]
      unfold hitO at h4
      rw [Bool.and_eq_true, decide_eq_true_eq, decide_eq_true_eq] at h4
      have htm : o'.tm = y := by
        obtain ⟨i, x', y', g1, g2, g3, g4, g5⟩ := hsrc o' (ih.sub o' (List.mem_of_getElem? h3))
        have : k = i := dist_eq hd hx g1 ⟨g3.symm.trans h4.1, g4.symm.trans h4.2⟩
        subst this
        exact g5.trans (Option.some.inj (g2.symm.trans hy))
      obtain ⟨_, b1, b2⟩ := ha.at_ k x y hx hy
      have hst := (hs.steps k x hx).after
      have hbef : befJ start st.done x.after = some (befP start p x) := by
        unfold befJ befP
        by_cases hm : x.after = -1
        · rw [if_pos hm, if_neg (by omega)]
        · rw [if_neg hm, if_pos (by omega), if_pos (by omega), ih.done]
          have hv := List.getElem?_eq_getElem (show x.after.toNat < p.length by rw [ha.len]; omega)
          rw [List.getD_eq_getElem?_getD, List.getElem?_map, List.getElem?_take, if_pos (by omega), getD_hit hv, hv]
          rfl
      refine ⟨?_, ?_, fun o2 h => ih.sub o2 (List.mem_of_mem_eraseIdx h), fun i x' y' hi hx' hy' => ?_⟩
      · show st.flt ++ _ = []
        rw [ih.flt, hbef, htm]
        show fltJ k x y (some (befP start p x)) = []
        unfold fltJ
        simp only []
        rw [if_neg (by omega), if_neg (by omega)]
      · show st.done ++ _ = _
        rw [ih.done, htm, take_snoc hy, List.map_append]
        rfl
      · obtain ⟨o2, g1, g2, g3, g4⟩ := ih.has i x' y' (by omega) hx' hy'
        refine ⟨o2, ?_, g2, g3, g4⟩
        rw [List.mem_eraseIdx_iff_getElem?]
        obtain ⟨r, hr, e⟩ := List.getElem_of_mem g1
        have hr' : st.left[r]? = some o2 := by rw [List.getElem?_eq_getElem hr, e]
        refine ⟨r, fun e' => ?_, hr'⟩
        subst e'
        obtain rfl := Option.some.inj (h3.symm.trans hr')
        have := dist_eq hd hx hx' ⟨g2.symm.trans h4.1, g3.symm.trans h4.2⟩
        omega
theorem firstA_of {c : Crew} : ∀ (l : List Acn) (i : Int), (∀ (j : Nat) y, l[j]? = some y → ActOk c (i + j) y) → firstA c l i = 0
  | [], _, _ => rfl
  | a :: l, i, h => by
    have h0 := (actOk_iff c i a).2 (by simpa using h 0 a rfl)
    unfold firstA
    rw [if_neg (not_not_intro h0)]
    refine firstA_of l (i + 1) fun j y hy => ?_
    have := h (j + 1) y (by simpa using hy)
    rwa [show i + ((j + 1 : Nat) : Int) = i + 1 + j by omega] at this
theorem plan_lo {c : Crew} {s : Scr} {start : Int} (h : planE c s start = 0) : ∀ y ∈ planL c s start, start ≤ y ∧ y ≤ 100000 := fun y hy => by
  obtain ⟨h1, h2, h3, h4⟩ := plan_ok h
  obtain ⟨i, hi, e⟩ := List.getElem_of_mem hy
  have hy' : (planL c s start)[i]? = some y := by rw [List.getElem?_eq_getElem hi, e]
  have hw := List.getElem?_eq_getElem (show i < (winL s.steps).length by rw [winL_len]; omega)
  have := good_win h1 h3 i y _ hy' hw
  have hb := winL_bd (scrOk_of h1).steps s.steps.length (Nat.le_refl _)
  rw [List.take_length] at hb
  have := hb _ (List.mem_of_getElem? hw)
  have hx := List.getElem?_eq_getElem (show i < s.steps.length by omega)
  have := ableF_min (crew_of h1) ((scrOk_of h1).steps i _ hx).kind ((good_allow h1 h3 h4).at_ i _ y hx hy').1
  omega
theorem drill_ok {c : Crew} {s : Scr} {start last : Int} {n : Nat} {acts : List Acn} (h : planE c s start = 0) (hd : DistS s) (ho : DOut c s (planL c s start) last n acts) (hn : (planL c s start).length ≤ n) (hl : acts.length ≤ 60) :
    playE c acts = 0 ∧ judE c s start acts = 0 ∧ judL c s start acts = [] ∧ playK c acts = cleanH c := by
  obtain ⟨h1, h2, h3, h4⟩ := plan_ok h
  obtain ⟨_, hc, _, ords, ⟨hok, now, _, hrm⟩, hsrc, hhas⟩ := ho
  have hall : ∀ y ∈ planL c s start, y ≤ last := fun y hy => by
    have : cntL (planL c s start) last = (planL c s start).length := by
      have : cntL (planL c s start) last ≤ (planL c s start).length := List.countP_le_length
      omega
    unfold cntL at this
    rw [List.countP_eq_length] at this
    simpa using this y hy
  have hp : playE c acts = 0 := by
    unfold playE
    rw [if_neg (not_not_intro (crew_of h1)), if_neg (by omega)]
    exact firstA_of acts 0 fun j y hy => by simpa using hok j y hy
  have hlo := plan_lo h
  have hj := judE_0 h1 (by rw [neverB, outB_false]; exact h2) hp
  have hO : playO c acts = ords := by
    unfold playO
    rw [if_neg (not_not_intro hp)]
    show (roomL c acts).ords = _
    rw [hrm]
  have hL : leftJ c acts start = ords := by
    unfold leftJ
    rw [hO, List.filter_eq_self]
    intro o ho
    obtain ⟨i, x, y, _, g, _, _, e⟩ := hsrc o ho
    have := hlo y (List.mem_of_getElem? g)
    simp; omega
  refine ⟨hp, hj.1, ?_, ?_⟩
  · rw [hj.2, hL]
    exact (jInv (scrOk_of h1) hd (good_allow h1 h3 h4) hsrc (fun i x y hx hy => hhas i x y hx hy (.inl (hall y (List.mem_of_getElem? hy)))) s.steps.length (Nat.le_refl _)).flt
  · unfold playK
    rw [if_neg (not_not_intro hp)]
    show (roomL c acts).hold = _
    rw [hrm]
end Bx
/- part C30 -/
namespace Bx
open Go Go.RowKit
theorem keys8 {c : Crew} (hc : CrewOk c) {k : Int} (hk : 0 ≤ k ∧ k < c.kinds.length) {x : Knd} (hx : kndAt c k = x) : x.keys.length ≤ 8 := by
  subst hx
  have hko := kndAt_ok hc hk
  have hnk := hc.nkeys
  have hsub : ((kndAt c k).keys.map Int.toNat).Nodup := by
    rw [List.nodup_iff_pairwise_ne, List.pairwise_map]
    refine List.Pairwise.imp_of_mem (fun {a b} ha hb hne e => ?_) hko.nodup
    have := keys_in hko a ha
    have := keys_in hko b hb
    exact hne (by omega)
  have := hsub.length_le_of_subset (l₂ := List.range c.keys.length) (fun m hm => by
    obtain ⟨k, hk, rfl⟩ := List.mem_map.1 hm
    have := keys_in hko k hk
    exact List.mem_range.2 (by omega))
  rw [List.length_map, List.length_range] at this
  omega
theorem dIn_n {c : Crew} {s : Scr} {p : List Int} {last next : Int} {j n : Nat} {acts : List Acn} (h : DIn c s p last next j n acts) (hp : p.length ≤ 10) : n ≤ 20 ∧ acts.length ≤ 360 := by
  have h1 := h.cnt
  have h2 := h.len
  have : cntJ p last next j ≤ 20 := by
    unfold cntJ cntL
    have a := List.countP_le_length (p := fun y => decide (y ≤ last)) (l := p)
    have b := List.countP_le_length (p := fun y => decide (y = next)) (l := p.take j)
    rw [List.length_take] at b
    omega
  omega
theorem dOut_n {c : Crew} {s : Scr} {p : List Int} {last : Int} {n : Nat} {acts : List Acn} (h : DOut c s p last n acts) (hp : p.length ≤ 10) : n ≤ 20 ∧ acts.length ≤ 360 := by
  have h1 := h.cnt
  have h2 := h.len
  have : cntL p last ≤ 10 := Nat.le_trans (List.countP_le_length) hp
  omega
theorem planL_nil {c : Crew} {s : Scr} {start : Int} (h : planE c s start ≠ 0) : planL c s start = [] := by
  unfold planE at h
  unfold planL
  split
  · rfl
  · rename_i h1
    rw [if_neg h1] at h
    split
    · rfl
    · rename_i h2
      rw [if_neg h2] at h
      split
      · rfl
      · rename_i l hl
        rw [hl] at h
        exact absurd rfl h
theorem actC_len (a : Acn) : (actC a).length = 6 := rfl
theorem sl_acts {w : World} {e : TypeId} {v : Value} {n : Nat} {l : List Acn} (h : w.ownsRow 0 e 6 v n (l.flatMap actC)) (hn : l.length = n) (hb : ∀ a ∈ l, I64 a.tm ∧ I64 a.who ∧ I64 a.dw ∧ I64 a.what ∧ I64 a.to ∧ I64 a.subj) : Sl w 6 RAct v l := by
  subst hn
  exact row_sl actC_len h (fun a ha => hb a ha)
theorem acts_64 {c : Crew} {acts : List Acn} (h : playE c acts = 0) : ∀ a ∈ acts, I64 a.tm ∧ I64 a.who ∧ I64 a.dw ∧ I64 a.what ∧ I64 a.to ∧ I64 a.subj := fun a ha => by
  obtain ⟨hc, hn, hall⟩ := play_ok h
  obtain ⟨j, hj, e⟩ := List.getElem_of_mem ha
  have hok := hall j a (by rw [List.getElem?_eq_getElem hj, e])
  have h1 := hok.tm
  have h2 := hok.who
  have h3 := hok.dw
  have h4 := hok.what
  have h5 := hok.to
  have h6 := hok.subj
  have c1 := hc.nops
  have c2 := hc.nkeys
  have c3 := hc.nkinds
  have : manyA c j a ≤ 60 := by
    unfold manyA
    split
    · omega
    · split <;> omega
  refine ⟨?_, ?_, ?_, ?_, ?_, ?_⟩ <;> (constructor <;> omega)
end Bx
/- part Ck45 -/
namespace Go.Proofs.Ytghgnofilbnbaaa
open Go Bx
/-- barrage/barragelaw10.act -/
theorem c_lact {v : Value} {l : List Acn} {a1 a2 a3 a4 : Int} {w0 : World} (hl : l.length ≤ 1000) {L : List Bx.Item} {w : World} (hS : StX [] w0 w (rowI v 53 6 (l).length ((l).flatMap actC) :: L)) : CE Try.prog 73 #[v, .int .i64 a1, .int .i64 a2, .int .i64 a3, .int .i64 a4] w (fun u w' => ∃ v', u = v' ∧ StX [] w0 w' (rowI v' 53 6 (l ++ [Acn.mk a1 a2 a3 a4 0 0]).length ((l ++ [Acn.mk a1 a2 a3 a4 0 0]).flatMap actC) :: L)) := by
  skip
  refine enter Try.func73 rfl Try.ntmps73 rfl ?_
  skip
  refine seq ?_
  refine region ?_
  refine sv (yAsg rfl) ?_
  refine nil ?_
  show Code.wp _ _ _ _ _
  refine seq ?_
  refine region ?_
  refine sv (yMove rfl) ?_
  refine sv (yMove rfl) ?_
  refine sv (yMove rfl) ?_
  refine sv (yMove rfl) ?_
  refine sv (yMove rfl) ?_
  refine sv (yBuild Try.zeroValue53 rfl pl53 (.cons rfl rfl (.cons rfl rfl (.cons rfl rfl (.cons rfl rfl .nil)))) rfl) ?_
  refine sbslice hS Try.underlying37 Try.sizeOf53 rfl Try.zeroValue53 rfl (.cons rfl rfl .nil) rfl ?_; clear hS; intro b17 w hS
  refine sapp (bytes := 48) (size := 6) (v := v) (m := 1) hS rfl rfl Try.underlying37 ti53 rfl rfl rfl rfl (by decide) (blk_cells (hS.at _)) rfl rfl (by omega) (by omega) ?_; clear hS; intro v18 w hS
  refine sv (yAsg rfl) ?_
  refine nil ?_
  show Code.wp _ _ _ _ _
  refine wp_ret ?_
  refine retQ (res1 rfl rfl) ?_
  exact ⟨_, rfl, by (rw [List.flatMap_append, List.length_append]; exact hS.sub (.cons _ (List.Sublist.refl _)))⟩
set_option maxHeartbeats 2000000 in
/-- barrage/barragelaw10.done -/
theorem c_done {v : Value} {l : List Acn} {x : Knd} {xs : List Value} {s : Stp} {tm who sec : Int} {w0 : World} (hx : RKnd w0 xs x) (hkl : x.keys.length ≤ 8) (hl : l.length ≤ 900) {L : List Bx.Item} {w : World} (hS : StX [] w0 w (rowI v 53 6 (l).length ((l).flatMap actC) :: L)) : CE Try.prog 37 #[v, .agg xs.toArray, .agg (stpC s).toArray, .int .i64 tm, .int .i64 who, .int .i64 sec] w (fun u w' => ∃ v', u = v' ∧ StX [] w0 w' (rowI v' 53 6 (doneA l x s tm who sec).length ((doneA l x s tm who sec).flatMap actC) :: L)) := by
  obtain ⟨kv, rfl, -, -, -, -, hsk, -⟩ := id hx
  obtain ⟨ak, ck, rfl, hkcap, hkmx, hek⟩ := id hsk
  refine enter Try.func37 rfl Try.ntmps37 rfl ?_
  skip
  refine seq ?_
  refine region ?_
  refine sbox hS rfl rfl ?_; clear hS; intro b7 w hS
  refine sbox hS rfl rfl ?_; clear hS; intro b8 w hS
  refine sv (yAsg rfl) ?_
  refine nil ?_
  show Code.wp _ _ _ _ _
  refine seq ?_
  refine seq ?_
  refine region ?_
  refine sv (yAsg rfl) ?_
  refine nil ?_
  show Code.wp _ _ _ _ _
  refine block ?_
  refine loop (fun f w zz => ∃ (k : Nat) (v2 : Value), f 3 = .int .i64 tm ∧ f 4 = .int .i64 who ∧ f 5 = .int .i64 sec ∧ f 7 = .pointer (some ⟨b7, 0, none⟩) ∧ f 8 = .pointer (some ⟨b8, 0, none⟩) ∧ f 0 = v2 ∧ f 13 = .int .i64 (k : Int) ∧ StX [] w0 w (rowI v2 53 6 ((l ++ keyA x tm who sec 1 (k))).length (((l ++ keyA x tm who sec 1 (k))).flatMap actC) :: blk b8 [.int .i64 s.kind, .int .i64 s.subj, .int .i64 s.after, .int .i64 s.least, .int .i64 s.most] 89 :: blk b7 [.string x.name, .int .i64 x.grade, .int .i64 x.second, .int .i64 x.within, .slice ak x.keys.length ck, .bool x.split] 79 :: L) ∧ (k ≤ x.keys.length) ∧ zz = x.keys.length - k) _ ⟨_, rfl, 0, _, rfl, rfl, rfl, rfl, rfl, rfl, rfl, (by (rw [show l ++ keyA x tm who sec 1 0 = l from List.append_nil l]; exact hS.perm (List.perm_middle (l₁ := [_, _])))), (Nat.zero_le _), rfl⟩ ?_
  clear hS
  rintro f w _ ⟨k, v2, h3, h4, h5, h7, h8, h0, h13, hS, hk, rfl⟩
  refine seq ?_
  refine seq ?_
  refine region ?_
  refine sv (yMove h13) ?_
  refine sv (fa79_4 h7) ?_
  refine sv (yLdB rfl Try.isAgg30 (hS.at _) rfl) ?_
  refine sv (yLen rfl Try.underlying30) ?_
  refine sv (yLss rfl rfl) ?_
  refine nil ?_
  show Code.wp _ _ _ _ _
  refine cond rfl (fun c22 => ?_) (fun c22 => ?_)
  ·
    simp only [Bool.and_eq_true, Bool.or_eq_true, Bool.and_eq_false_iff, Bool.or_eq_false_iff, decide_eq_true_eq, decide_eq_false_iff_not, Bool.not_eq_true, Bool.not_eq_false, Bool.not_not, Bool.not_eq_eq_eq_not, Bool.not_true, Bool.not_false, Bool.false_eq_true, Bool.true_eq_false, ne_eq, Decidable.not_not, not_false_eq_true, not_true_eq_false] at c22
    refine skip ?_
    show Code.wp _ _ _ _ _
    refine seq ?_
    refine block ?_
    refine seq ?_
    refine region ?_
    refine sv (yMove h4) ?_
    refine sv (yAsg rfl) ?_
    refine nil ?_
    show Code.wp _ _ _ _ _
    refine seqJ (n := 87) (fun f w => f 3 = .int .i64 tm ∧ f 4 = .int .i64 who ∧ f 5 = .int .i64 sec ∧ f 7 = .pointer (some ⟨b7, 0, none⟩) ∧ f 8 = .pointer (some ⟨b8, 0, none⟩) ∧ f 0 = v2 ∧ f 13 = .int .i64 (k : Int) ∧ f 14 = .int .i64 (byA x who sec k) ∧ StX [] w0 w (rowI v2 53 6 ((l ++ keyA x tm who sec 1 (k))).length (((l ++ keyA x tm who sec 1 (k))).flatMap actC) :: blk b8 [.int .i64 s.kind, .int .i64 s.subj, .int .i64 s.after, .int .i64 s.least, .int .i64 s.most] 89 :: blk b7 [.string x.name, .int .i64 x.grade, .int .i64 x.second, .int .i64 x.within, .slice ak x.keys.length ck, .bool x.split] 79 :: L) ∧ True) ?_ ?_
    ·
      refine seq ?_
      refine region ?_
      refine sv (fa79_5 h7) ?_
      refine sv (yLdB rfl Try.isAgg4 (hS.at _) rfl) ?_
      refine sv (yMove rfl) ?_
      refine sg rfl rfl rfl (fun g => (yMove h13)) (fun v29 g29 => ?_)
      refine sg rfl rfl rfl (fun g => (yEql (g29.1 g) rfl)) (fun v30 g30 => ?_)
      refine sv (yAnd rfl (fun hB => (g30.1 hB)) rfl) ?_
      refine nil ?_
      show Code.wp _ _ _ _ _
      refine cond rfl (fun c31 => ?_) (fun c31 => ?_)
      ·
        simp only [Bool.and_eq_true, Bool.or_eq_true, Bool.and_eq_false_iff, Bool.or_eq_false_iff, decide_eq_true_eq, decide_eq_false_iff_not, Bool.not_eq_true, Bool.not_eq_false, Bool.not_not, Bool.not_eq_eq_eq_not, Bool.not_true, Bool.not_false, Bool.false_eq_true, Bool.true_eq_false, ne_eq, Decidable.not_not, not_false_eq_true, not_true_eq_false] at c31
        refine region ?_
        refine sv (yMove h5) ?_
        refine sv (yAsg rfl) ?_
        refine nil ?_
        exact ⟨_, rfl, h3, h4, h5, h7, h8, h0, h13, rfl.trans (congrArg (Value.int .i64) (by unfold byA; rw [if_pos (by simpa using c31)])), hS, trivial⟩
      ·
        simp only [Bool.and_eq_true, Bool.or_eq_true, Bool.and_eq_false_iff, Bool.or_eq_false_iff, decide_eq_true_eq, decide_eq_false_iff_not, Bool.not_eq_true, Bool.not_eq_false, Bool.not_not, Bool.not_eq_eq_eq_not, Bool.not_true, Bool.not_false, Bool.false_eq_true, Bool.true_eq_false, ne_eq, Decidable.not_not, not_false_eq_true, not_true_eq_false] at c31
        refine skip ?_
        exact ⟨_, rfl, h3, h4, h5, h7, h8, h0, h13, rfl.trans (congrArg (Value.int .i64) (by unfold byA; rw [if_neg (by intro h; rw [Bool.and_eq_true, decide_eq_true_eq] at h; exact c31.elim (fun e => by rw [e] at h; cases h.1) (fun e => e (by omega)))])), hS, trivial⟩
    ·
      clear hS; rintro f w ⟨h3, h4, h5, h7, h8, h0, h13, h14, hS, -⟩
      refine region ?_
      obtain ⟨z, hxk, hdk⟩ := drop_of (l := x.keys) (k := k) (by omega)
      obtain ⟨bk, ok, csk, hak, hlenk, hcsk, hRk⟩ := hek (k) (by omega)
      obtain rfl : z = x.keys[k] := (List.getElem?_eq_some_iff.1 hxk).2.symm
      generalize x.keys[k] = z at hxk hdk hRk
      obtain ⟨rfl, hzi⟩ := hRk
      refine sv (yMove h0) ?_
      refine sv (yMove h3) ?_
      refine sv (yMove h14) ?_
      refine sv (fa79_4 h7) ?_
      refine sv (yLdB rfl Try.isAgg30 (hS.at _) rfl) ?_
      refine sv (yMove h13) ?_
      refine sv (yIxa rfl hak rfl Try.runUnderlying30 Try.sizeOf3 (by omega) (by omega)) ?_
      refine sv (yLd rfl Try.isAgg3 (hcsk.ext hS.ext).one) ?_
      refine scall Try.call73 (.cons rfl (.cons rfl (.cons rfl (.cons rfl (.cons rfl .nil))))) (c_lact (by simp only [List.length_append, keyA_len]; omega) hS) ?_
      rintro _ w ⟨v2, rfl, hS2⟩; clear hS; have hS := hS2; clear hS2
      refine sv (yAsg rfl) ?_
      refine nil ?_
      show Code.wp _ _ _ _ _
      refine region ?_
      refine sv (yMove h13) ?_
      refine sv (yAdd rfl rfl ⟨by omega, by omega⟩) ?_
      refine sv (yAsg rfl) ?_
      refine nil ?_
      exact ⟨_, _, rfl, ⟨k + 1, _, h3, h4, h5, h7, h8, rfl, rfl, (by (rw [keyA_succ hxk, ← List.append_assoc]; exact hS)), (by omega), rfl⟩, by omega⟩
  ·
    simp only [Bool.and_eq_true, Bool.or_eq_true, Bool.and_eq_false_iff, Bool.or_eq_false_iff, decide_eq_true_eq, decide_eq_false_iff_not, Bool.not_eq_true, Bool.not_eq_false, Bool.not_not, Bool.not_eq_eq_eq_not, Bool.not_true, Bool.not_false, Bool.false_eq_true, Bool.true_eq_false, ne_eq, Decidable.not_not, not_false_eq_true, not_true_eq_false] at c22
    obtain rfl : k = x.keys.length := by omega
    have hgl : (givA l x tm who sec).length = l.length + x.keys.length := by simp [givA, keyA_len]
    obtain ⟨a2, cc2, rfl⟩ := row_shape (hS.row v2)
    refine exit ?_
    show Code.wp _ _ _ _ _
    refine seq ?_
    refine region ?_
    refine sv (yMove h0) ?_
    refine sv (yLen rfl Try.underlying37) ?_
    refine sv (yAsg rfl) ?_
    refine nil ?_
    show Code.wp _ _ _ _ _
    refine seq ?_
    refine region ?_
    refine sv (yMove h0) ?_
    refine sv (yMove h3) ?_
    refine sv (yMove h4) ?_
    refine sv (fa89_0 h8) ?_
    refine sv (yLdB rfl Try.isAgg3 (hS.at _) rfl) ?_
    refine sv (fa89_1 h8) ?_
    refine sv (yLdB rfl Try.isAgg3 (hS.at _) rfl) ?_
    refine sv (yBuild Try.zeroValue53 rfl pl53 (.cons rfl rfl (.cons rfl rfl (.cons rfl rfl (.cons rfl rfl (.cons rfl rfl .nil))))) rfl) ?_
    refine sbslice hS Try.underlying37 Try.sizeOf53 rfl Try.zeroValue53 rfl (.cons rfl rfl .nil) rfl ?_; clear hS; intro b52 w hS
    refine sapp (bytes := 48) (size := 6) (v := (.slice a2 (l ++ keyA x tm who sec 1 (x.keys.length)).length cc2)) (m := 1) hS rfl rfl Try.underlying37 ti53 rfl rfl rfl rfl (by decide) (blk_cells (hS.at _)) rfl rfl (by simp only [List.length_append, keyA_len]; omega) (by simp only [List.length_append, keyA_len]; omega) ?_; clear hS; intro v53 w hS
    refine sv (yAsg rfl) ?_
    refine nil ?_
    show Code.wp _ _ _ _ _
    refine seqJ (n := 87) (fun f w => ∃ (v2 : Value), f 3 = .int .i64 tm ∧ f 4 = .int .i64 who ∧ f 5 = .int .i64 sec ∧ f 7 = .pointer (some ⟨b7, 0, none⟩) ∧ f 8 = .pointer (some ⟨b8, 0, none⟩) ∧ f 0 = v2 ∧ StX [] w0 w (rowI v2 53 6 (conA l x s tm who sec).length ((conA l x s tm who sec).flatMap actC) :: blk b8 [.int .i64 s.kind, .int .i64 s.subj, .int .i64 s.after, .int .i64 s.least, .int .i64 s.most] 89 :: blk b7 [.string x.name, .int .i64 x.grade, .int .i64 x.second, .int .i64 x.within, .slice ak x.keys.length ck, .bool x.split] 79 :: L) ∧ True) ?_ ?_
    ·
      refine seq ?_
      refine region ?_
      replace hS : StX [] w0 w (rowI v53 53 6 (ordA l x s tm who sec).length ((ordA l x s tm who sec).flatMap actC) :: blk b8 [.int .i64 s.kind, .int .i64 s.subj, .int .i64 s.after, .int .i64 s.least, .int .i64 s.most] 89 :: blk b7 [.string x.name, .int .i64 x.grade, .int .i64 x.second, .int .i64 x.within, .slice ak x.keys.length ck, .bool x.split] 79 :: L) := by
        have := hS.sub (.cons _ (List.Sublist.refl _))
        unfold ordA givA
        rw [List.flatMap_append, List.length_append]
        exact this
      refine sv (fa79_2 h7) ?_
      refine sv (yLdB rfl Try.isAgg3 (hS.at _) rfl) ?_
      refine sv (yGtr rfl rfl) ?_
      refine nil ?_
      show Code.wp _ _ _ _ _
      refine cond rfl (fun c56 => ?_) (fun c56 => ?_)
      ·
        simp only [Bool.and_eq_true, Bool.or_eq_true, Bool.and_eq_false_iff, Bool.or_eq_false_iff, decide_eq_true_eq, decide_eq_false_iff_not, Bool.not_eq_true, Bool.not_eq_false, Bool.not_not, Bool.not_eq_eq_eq_not, Bool.not_true, Bool.not_false, Bool.false_eq_true, Bool.true_eq_false, ne_eq, Decidable.not_not, not_false_eq_true, not_true_eq_false] at c56
        refine region ?_
        refine sv (yMove rfl) ?_
        refine sv (yMove h3) ?_
        refine sv (yMove h5) ?_
        refine sv (yMove rfl) ?_
        refine scall Try.call73 (.cons rfl (.cons rfl (.cons rfl (.cons rfl (.cons rfl .nil))))) (c_lact (by unfold ordA givA; simp only [List.length_append, List.length_singleton, keyA_len]; omega) hS) ?_
        rintro _ w ⟨v2, rfl, hS2⟩; clear hS; have hS := hS2; clear hS2
        refine sv (yAsg rfl) ?_
        refine nil ?_
        exact ⟨_, rfl, _, h3, h4, h5, h7, h8, rfl, (by (unfold conA; rw [if_pos c56]; exact hS)), trivial⟩
      ·
        simp only [Bool.and_eq_true, Bool.or_eq_true, Bool.and_eq_false_iff, Bool.or_eq_false_iff, decide_eq_true_eq, decide_eq_false_iff_not, Bool.not_eq_true, Bool.not_eq_false, Bool.not_not, Bool.not_eq_eq_eq_not, Bool.not_true, Bool.not_false, Bool.false_eq_true, Bool.true_eq_false, ne_eq, Decidable.not_not, not_false_eq_true, not_true_eq_false] at c56
        refine skip ?_
        exact ⟨_, rfl, _, h3, h4, h5, h7, h8, rfl, (by (unfold conA; rw [if_neg c56]; exact hS)), trivial⟩
    ·
      clear hS; rintro f w ⟨v2, h3, h4, h5, h7, h8, h0, hS, -⟩
      refine seq ?_
      refine seq ?_
      refine region ?_
      refine sv (yAsg rfl) ?_
      refine nil ?_
      show Code.wp _ _ _ _ _
      refine block ?_
      refine loop (fun f w zz => ∃ (k : Nat) (v2 : Value), f 3 = .int .i64 tm ∧ f 4 = .int .i64 who ∧ f 5 = .int .i64 sec ∧ f 7 = .pointer (some ⟨b7, 0, none⟩) ∧ f 8 = .pointer (some ⟨b8, 0, none⟩) ∧ f 0 = v2 ∧ f 16 = .int .i64 (k : Int) ∧ StX [] w0 w (rowI v2 53 6 ((conA l x s tm who sec ++ keyA x tm who sec 3 (k))).length (((conA l x s tm who sec ++ keyA x tm who sec 3 (k))).flatMap actC) :: blk b8 [.int .i64 s.kind, .int .i64 s.subj, .int .i64 s.after, .int .i64 s.least, .int .i64 s.most] 89 :: blk b7 [.string x.name, .int .i64 x.grade, .int .i64 x.second, .int .i64 x.within, .slice ak x.keys.length ck, .bool x.split] 79 :: L) ∧ (k ≤ x.keys.length) ∧ zz = x.keys.length - k) _ ⟨_, rfl, 0, _, h3, h4, h5, h7, h8, h0, rfl, (by (rw [show conA l x s tm who sec ++ keyA x tm who sec 3 0 = conA l x s tm who sec from List.append_nil _]; exact hS)), (Nat.zero_le _), rfl⟩ ?_
      clear hS
      rintro f w _ ⟨k, v2, h3, h4, h5, h7, h8, h0, h16, hS, hk, rfl⟩
      refine seq ?_
      refine seq ?_
      refine region ?_
      refine sv (yMove h16) ?_
      refine sv (fa79_4 h7) ?_
      refine sv (yLdB rfl Try.isAgg30 (hS.at _) rfl) ?_
      refine sv (yLen rfl Try.underlying30) ?_
      refine sv (yLss rfl rfl) ?_
      refine nil ?_
      show Code.wp _ _ _ _ _
      refine cond rfl (fun c66 => ?_) (fun c66 => ?_)
      ·
        simp only [Bool.and_eq_true, Bool.or_eq_true, Bool.and_eq_false_iff, Bool.or_eq_false_iff, decide_eq_true_eq, decide_eq_false_iff_not, Bool.not_eq_true, Bool.not_eq_false, Bool.not_not, Bool.not_eq_eq_eq_not, Bool.not_true, Bool.not_false, Bool.false_eq_true, Bool.true_eq_false, ne_eq, Decidable.not_not, not_false_eq_true, not_true_eq_false] at c66
        refine skip ?_
        show Code.wp _ _ _ _ _
        refine seq ?_
        refine block ?_
        refine seq ?_
        refine region ?_
        refine sv (yMove h4) ?_
        refine sv (yAsg rfl) ?_
        refine nil ?_
        show Code.wp _ _ _ _ _
        refine seqJ (n := 87) (fun f w => f 3 = .int .i64 tm ∧ f 4 = .int .i64 who ∧ f 5 = .int .i64 sec ∧ f 7 = .pointer (some ⟨b7, 0, none⟩) ∧ f 8 = .pointer (some ⟨b8, 0, none⟩) ∧ f 0 = v2 ∧ f 16 = .int .i64 (k : Int) ∧ f 17 = .int .i64 (byA x who sec k) ∧ StX [] w0 w (rowI v2 53 6 ((conA l x s tm who sec ++ keyA x tm who sec 3 (k))).length (((conA l x s tm who sec ++ keyA x tm who sec 3 (k))).flatMap actC) :: blk b8 [.int .i64 s.kind, .int .i64 s.subj, .int .i64 s.after, .int .i64 s.least, .int .i64 s.most] 89 :: blk b7 [.string x.name, .int .i64 x.grade, .int .i64 x.second, .int .i64 x.within, .slice ak x.keys.length ck, .bool x.split] 79 :: L) ∧ True) ?_ ?_
        ·
          refine seq ?_
          refine region ?_
          refine sv (fa79_5 h7) ?_
          refine sv (yLdB rfl Try.isAgg4 (hS.at _) rfl) ?_
          refine sv (yMove rfl) ?_
          refine sg rfl rfl rfl (fun g => (yMove h16)) (fun v73 g73 => ?_)
          refine sg rfl rfl rfl (fun g => (yEql (g73.1 g) rfl)) (fun v74 g74 => ?_)
          refine sv (yAnd rfl (fun hB => (g74.1 hB)) rfl) ?_
          refine nil ?_
          show Code.wp _ _ _ _ _
          refine cond rfl (fun c75 => ?_) (fun c75 => ?_)
          ·
            simp only [Bool.and_eq_true, Bool.or_eq_true, Bool.and_eq_false_iff, Bool.or_eq_false_iff, decide_eq_true_eq, decide_eq_false_iff_not, Bool.not_eq_true, Bool.not_eq_false, Bool.not_not, Bool.not_eq_eq_eq_not, Bool.not_true, Bool.not_false, Bool.false_eq_true, Bool.true_eq_false, ne_eq, Decidable.not_not, not_false_eq_true, not_true_eq_false] at c75
            refine region ?_
            refine sv (yMove h5) ?_
            refine sv (yAsg rfl) ?_
            refine nil ?_
            exact ⟨_, rfl, h3, h4, h5, h7, h8, h0, h16, rfl.trans (congrArg (Value.int .i64) (by unfold byA; rw [if_pos (by simpa using c75)])), hS, trivial⟩
          ·
            simp only [Bool.and_eq_true, Bool.or_eq_true, Bool.and_eq_false_iff, Bool.or_eq_false_iff, decide_eq_true_eq, decide_eq_false_iff_not, Bool.not_eq_true, Bool.not_eq_false, Bool.not_not, Bool.not_eq_eq_eq_not, Bool.not_true, Bool.not_false, Bool.false_eq_true, Bool.true_eq_false, ne_eq, Decidable.not_not, not_false_eq_true, not_true_eq_false] at c75
            refine skip ?_
            exact ⟨_, rfl, h3, h4, h5, h7, h8, h0, h16, rfl.trans (congrArg (Value.int .i64) (by unfold byA; rw [if_neg (by intro h; rw [Bool.and_eq_true, decide_eq_true_eq] at h; exact c75.elim (fun e => by rw [e] at h; cases h.1) (fun e => e (by omega)))])), hS, trivial⟩
        ·
          clear hS; rintro f w ⟨h3, h4, h5, h7, h8, h0, h16, h17, hS, -⟩
          refine region ?_
          obtain ⟨z, hxk, hdk⟩ := drop_of (l := x.keys) (k := k) (by omega)
          obtain ⟨bk, ok, csk, hak, hlenk, hcsk, hRk⟩ := hek (k) (by omega)
          obtain rfl : z = x.keys[k] := (List.getElem?_eq_some_iff.1 hxk).2.symm
          generalize x.keys[k] = z at hxk hdk hRk
          obtain ⟨rfl, hzi⟩ := hRk
          refine sv (yMove h0) ?_
          refine sv (yMove h3) ?_
          refine sv (yMove h17) ?_
          refine sv (fa79_4 h7) ?_
          refine sv (yLdB rfl Try.isAgg30 (hS.at _) rfl) ?_
          refine sv (yMove h16) ?_
          refine sv (yIxa rfl hak rfl Try.runUnderlying30 Try.sizeOf3 (by omega) (by omega)) ?_
          refine sv (yLd rfl Try.isAgg3 (hcsk.ext hS.ext).one) ?_
          refine scall Try.call73 (.cons rfl (.cons rfl (.cons rfl (.cons rfl (.cons rfl .nil))))) (c_lact (by have := conA_len (l := l) (x := x) (s := s) (tm := tm) (who := who) (sec := sec); simp only [List.length_append, keyA_len]; omega) hS) ?_
          rintro _ w ⟨v3, rfl, hS2⟩; clear hS; have hS := hS2; clear hS2
          refine sv (yAsg rfl) ?_
          refine nil ?_
          show Code.wp _ _ _ _ _
          refine region ?_
          refine sv (yMove h16) ?_
          refine sv (yAdd rfl rfl ⟨by omega, by omega⟩) ?_
          refine sv (yAsg rfl) ?_
          refine nil ?_
          exact ⟨_, _, rfl, ⟨k + 1, _, h3, h4, h5, h7, h8, rfl, rfl, (by (rw [keyA_succ hxk, ← List.append_assoc]; exact hS)), (by omega), rfl⟩, by omega⟩
      ·
        simp only [Bool.and_eq_true, Bool.or_eq_true, Bool.and_eq_false_iff, Bool.or_eq_false_iff, decide_eq_true_eq, decide_eq_false_iff_not, Bool.not_eq_true, Bool.not_eq_false, Bool.not_not, Bool.not_eq_eq_eq_not, Bool.not_true, Bool.not_false, Bool.false_eq_true, Bool.true_eq_false, ne_eq, Decidable.not_not, not_false_eq_true, not_true_eq_false] at c66
        obtain rfl : k = x.keys.length := by omega
        refine exit ?_
        show Code.wp _ _ _ _ _
        refine seq ?_
        refine region ?_
        refine sv (yMove h0) ?_
        refine sv (yAsg rfl) ?_
        refine nil ?_
        show Code.wp _ _ _ _ _
        refine wp_ret ?_
        refine retQ (res1 rfl rfl) ?_
        exact ⟨_, rfl, by (unfold doneA; exact hS.sub (.cons_cons _ (.cons _ (.cons _ (List.Sublist.refl _)))))⟩
end Go.Proofs.Ytghgnofilbnbaaa
/- part Ck46 -/
namespace Go.Proofs.Ytghgnofilbnbaaa
open Go Bx
set_option maxHeartbeats 8000000 in
/-- barrage/barragelaw10.CrewDrills -/
theorem w_CrewDrills {c : Crew} {cs ss : List Value} {s : Scr} {w0 : World} (h : RCrew w0 cs c) (hs : RScr w0 ss s) {start : Int} (hsi : I64 start) : CV Try.prog 13 #[.agg cs.toArray, .agg ss.toArray, .int .i64 start] w0 (.bool true) := by
  obtain ⟨ov, kv, nv, rfl, hso, hsk, hsn, hrm⟩ := id h
  obtain ⟨a, cap, rfl, hcap, hmx, hel⟩ := id hso
  obtain ⟨ak, ck, rfl, hkcap, hkmx, -⟩ := id hsk
  obtain ⟨an, cn, rfl, hncap, hnmx, heln⟩ := id hsn
  obtain ⟨svn, rfl, hsz, hst⟩ := id hs
  obtain ⟨ax0, cps, rfl, hscap, hsmx, hels⟩ := id hst
  refine enter Try.func13 rfl Try.ntmps13 rfl ?_
  have hS := St.start w0
  refine seq ?_
  refine region ?_
  refine sbox hS rfl rfl ?_; clear hS; intro b3 w hS
  refine sbox hS rfl rfl ?_; clear hS; intro b4 w hS
  refine sv (yAsg rfl) ?_
  refine nil ?_
  show Code.wp _ _ _ _ _
  refine seq ?_
  refine region ?_
  refine sv (yLdBA rfl Try.isAgg26 Try.sizeOf26 (hS.at _) rfl rfl) ?_
  refine sv (yLdBA rfl Try.isAgg29 Try.sizeOf29 (hS.at _) rfl rfl) ?_
  refine sv (yMove rfl) ?_
  refine scall Try.call15 (.cons rfl (.cons rfl (.cons rfl .nil))) (c_Plan (h.ext hS.ext) (hs.ext hS.ext)) ?_
  rintro _ w ⟨pv, rfl, hM⟩; replace hS := hS.call1 hM; clear hM
  obtain ⟨ap, cp, rfl⟩ := row_shape (hS.row pv)
  refine sv (yMove rfl) ?_
  refine sv (yExt rfl rfl) ?_
  refine sv (yExt rfl rfl) ?_
  refine sv (yAsg rfl) ?_
  refine sv (yAsg rfl) ?_
  refine nil ?_
  show Code.wp _ _ _ _ _
  refine seq ?_
  refine seq ?_
  refine region ?_
  refine sv (yMove rfl) ?_
  refine sv (yNeq rfl rfl) ?_
  refine nil ?_
  show Code.wp _ _ _ _ _
  refine cond rfl (fun c32 => ?_) (fun c32 => ?_)
  ·
    simp only [Bool.and_eq_true, Bool.or_eq_true, Bool.and_eq_false_iff, Bool.or_eq_false_iff, decide_eq_true_eq, decide_eq_false_iff_not, Bool.not_eq_true, Bool.not_eq_false, Bool.not_not, Bool.not_eq_eq_eq_not, Bool.not_true, Bool.not_false, Bool.false_eq_true, Bool.true_eq_false, ne_eq, Decidable.not_not, not_false_eq_true, not_true_eq_false] at c32
    refine seq ?_
    refine region ?_
    refine sv (yMove rfl) ?_
    refine sv (yLen rfl Try.underlying30) ?_
    refine sv (yEql rfl rfl) ?_
    refine sv (yMove rfl) ?_
    refine sgc hS rfl rfl rfl Try.call18 (fun g => .nil) (fun g => c_Awake) ?_; clear hS; intro v37 w hS g37
    refine sv (yAnd rfl (fun hB => (g37.1 hB)) rfl) ?_
    refine sv (yAsg rfl) ?_
    refine nil ?_
    show Code.wp _ _ _ _ _
    refine wp_ret (thenR ?_)
    exact retV (res1 rfl (eqB (by rw [planL_nil c32]; rfl))) hS.ext
  ·
    simp only [Bool.and_eq_true, Bool.or_eq_true, Bool.and_eq_false_iff, Bool.or_eq_false_iff, decide_eq_true_eq, decide_eq_false_iff_not, Bool.not_eq_true, Bool.not_eq_false, Bool.not_not, Bool.not_eq_eq_eq_not, Bool.not_true, Bool.not_false, Bool.false_eq_true, Bool.true_eq_false, ne_eq, Decidable.not_not, not_false_eq_true, not_true_eq_false] at c32
    obtain ⟨hsc, hm0, hgo, hpl⟩ := plan_ok c32
    have hok := scrOk_of hsc
    have hlen := hok.len
    have hpb := plan_lo c32
    have hag := good_allow hsc hgo hpl
    obtain ⟨gap, rfl, -⟩ := row_get (hS.row (.slice ap (planL c s start).length cp)) (show 0 < (planL c s start).length by omega)
    refine skip ?_
    show Code.wp _ _ _ _ _
    refine seq ?_
    refine seq ?_
    refine region ?_
    refine sv (yMove rfl) ?_
    refine sv (yLen rfl Try.underlying30) ?_
    refine sv (fa29_1 rfl) ?_
    refine sv (yLdB rfl Try.isAgg27 (hS.at _) rfl) ?_
    refine sv (yLen rfl Try.underlying27) ?_
    refine sv (yNeq rfl rfl) ?_
    refine nil ?_
    show Code.wp _ _ _ _ _
    refine cond rfl (fun c44 => ?_) (fun c44 => ?_)
    ·
      simp only [Bool.and_eq_true, Bool.or_eq_true, Bool.and_eq_false_iff, Bool.or_eq_false_iff, decide_eq_true_eq, decide_eq_false_iff_not, Bool.not_eq_true, Bool.not_eq_false, Bool.not_not, Bool.not_eq_eq_eq_not, Bool.not_true, Bool.not_false, Bool.false_eq_true, Bool.true_eq_false, ne_eq, Decidable.not_not, not_false_eq_true, not_true_eq_false] at c44
      exfalso; omega
    ·
      simp only [Bool.and_eq_true, Bool.or_eq_true, Bool.and_eq_false_iff, Bool.or_eq_false_iff, decide_eq_true_eq, decide_eq_false_iff_not, Bool.not_eq_true, Bool.not_eq_false, Bool.not_not, Bool.not_eq_eq_eq_not, Bool.not_true, Bool.not_false, Bool.false_eq_true, Bool.true_eq_false, ne_eq, Decidable.not_not, not_false_eq_true, not_true_eq_false] at c44
      refine skip ?_
      show Code.wp _ _ _ _ _
      refine seq ?_
      refine seq ?_
      refine region ?_
      refine sv (yAsg rfl) ?_
      refine nil ?_
      show Code.wp _ _ _ _ _
      refine block ?_
      refine loop (fun f w zz => ∃ (i : Nat), f 2 = .int .i64 start ∧ f 3 = .pointer (some ⟨b3, 0, none⟩) ∧ f 4 = .pointer (some ⟨b4, 0, none⟩) ∧ f 7 = .slice (some ⟨gap, 0, none⟩) (planL c s start).length cp ∧ f 9 = .int .i64 (i : Int) ∧ StX [] w0 w [rowI (.slice (some ⟨gap, 0, none⟩) (planL c s start).length cp) 3 1 (planL c s start).length ((planL c s start).flatMap Bx.encI), blk b4 [.string s.name, .slice ax0 s.steps.length cps] 29, blk b3 [.slice a c.ops.length cap, .slice ak c.keys.length ck, .slice an c.kinds.length cn] 26] ∧ (i ≤ s.steps.length) ∧ (∀ q, q < i → ∀ (k : Nat) (x y : Stp), k < q → s.steps[q]? = some x → s.steps[k]? = some y → ¬ (y.kind = x.kind ∧ y.subj = x.subj)) ∧ zz = s.steps.length - i) _ ⟨_, rfl, 0, rfl, rfl, rfl, rfl, rfl, hS, (Nat.zero_le _), (fun q hq => absurd hq (Nat.not_lt_zero q)), rfl⟩ ?_
      clear hS
      rintro f w _ ⟨i, h2, h3, h4, h7, h9, hS, hi, hD, rfl⟩
      refine seq ?_
      refine seq ?_
      refine region ?_
      refine sv (yMove h9) ?_
      refine sv (fa29_1 h4) ?_
      refine sv (yLdB rfl Try.isAgg27 (hS.at _) rfl) ?_
      refine sv (yLen rfl Try.underlying27) ?_
      refine sv (yLss rfl rfl) ?_
      refine nil ?_
      show Code.wp _ _ _ _ _
      refine cond rfl (fun c49 => ?_) (fun c49 => ?_)
      ·
        simp only [Bool.and_eq_true, Bool.or_eq_true, Bool.and_eq_false_iff, Bool.or_eq_false_iff, decide_eq_true_eq, decide_eq_false_iff_not, Bool.not_eq_true, Bool.not_eq_false, Bool.not_not, Bool.not_eq_eq_eq_not, Bool.not_true, Bool.not_false, Bool.false_eq_true, Bool.true_eq_false, ne_eq, Decidable.not_not, not_false_eq_true, not_true_eq_false] at c49
        refine skip ?_
        show Code.wp _ _ _ _ _
        refine seq ?_
        refine block ?_
        refine seq ?_
        refine region ?_
        obtain ⟨x, hxx, hdx⟩ := drop_of (l := s.steps) (k := i) (by omega)
        obtain ⟨bx, ox, csx, hax, hlenx, hcsx, hRx⟩ := hels (i) (by omega)
        obtain rfl : x = s.steps[i] := (List.getElem?_eq_some_iff.1 hxx).2.symm
        generalize s.steps[i] = x at hxx hdx hRx
        obtain ⟨rfl, hxi⟩ := hRx
        refine sv (yAsg rfl) ?_
        refine nil ?_
        show Code.wp _ _ _ _ _
        refine block ?_
        refine loop (fun f w zz => ∃ (k : Nat), f 2 = .int .i64 start ∧ f 3 = .pointer (some ⟨b3, 0, none⟩) ∧ f 4 = .pointer (some ⟨b4, 0, none⟩) ∧ f 7 = .slice (some ⟨gap, 0, none⟩) (planL c s start).length cp ∧ f 9 = .int .i64 (i : Int) ∧ f 10 = .int .i64 (k : Int) ∧ StX [] w0 w [rowI (.slice (some ⟨gap, 0, none⟩) (planL c s start).length cp) 3 1 (planL c s start).length ((planL c s start).flatMap Bx.encI), blk b4 [.string s.name, .slice ax0 s.steps.length cps] 29, blk b3 [.slice a c.ops.length cap, .slice ak c.keys.length ck, .slice an c.kinds.length cn] 26] ∧ (k ≤ i) ∧ (∀ q, q < k → ∀ y : Stp, s.steps[q]? = some y → ¬ (y.kind = x.kind ∧ y.subj = x.subj)) ∧ zz = i - k) _ ⟨_, rfl, 0, h2, h3, h4, h7, h9, rfl, hS, (Nat.zero_le _), (fun q hq => absurd hq (Nat.not_lt_zero q)), rfl⟩ ?_
        clear hS
        rintro f w _ ⟨k, h2, h3, h4, h7, h9, h10, hS, hk, hE, rfl⟩
        refine seq ?_
        refine seq ?_
        refine region ?_
        refine sv (yMove h10) ?_
        refine sv (yMove h9) ?_
        refine sv (yLss rfl rfl) ?_
        refine nil ?_
        show Code.wp _ _ _ _ _
        refine cond rfl (fun c54 => ?_) (fun c54 => ?_)
        ·
          simp only [Bool.and_eq_true, Bool.or_eq_true, Bool.and_eq_false_iff, Bool.or_eq_false_iff, decide_eq_true_eq, decide_eq_false_iff_not, Bool.not_eq_true, Bool.not_eq_false, Bool.not_not, Bool.not_eq_eq_eq_not, Bool.not_true, Bool.not_false, Bool.false_eq_true, Bool.true_eq_false, ne_eq, Decidable.not_not, not_false_eq_true, not_true_eq_false] at c54
          refine skip ?_
          show Code.wp _ _ _ _ _
          refine seq ?_
          refine block ?_
          refine seq ?_
          refine region_draw mixed (by kernel_rfl) hS ?_
          obtain ⟨y, hxq, hdq⟩ := drop_of (l := s.steps) (k := k) (by omega)
          obtain ⟨bq, oq, csq, haq, hlenq, hcsq, hRq⟩ := hels (k) (by omega)
          obtain rfl : y = s.steps[k] := (List.getElem?_eq_some_iff.1 hxq).2.symm
          generalize s.steps[k] = y at hxq hdq hRq
          obtain ⟨rfl, hyi⟩ := hRq
          refine qv (fun w hS => (fa29_1 h4)) ?_
          refine qv (fun w hS => (yLdB rfl Try.isAgg27 (hS.at _) rfl)) ?_
          refine qv (fun w hS => (yMove h10)) ?_
          refine qv (fun w hS => (yIxa rfl haq rfl Try.runUnderlying27 Try.sizeOf89 (by omega) (by omega))) ?_
          refine qv (fun w hS => (fa89_0 rfl)) ?_
          refine qv (fun w hS => (yLd rfl Try.isAgg3 ((hcsq.ext hS.ext).at (j := 0) rfl))) ?_
          refine qv (fun w hS => (fa29_1 h4)) ?_
          refine qv (fun w hS => (yLdB rfl Try.isAgg27 (hS.at _) rfl)) ?_
          refine qv (fun w hS => (yMove h9)) ?_
          refine qv (fun w hS => (yIxa rfl hax rfl Try.runUnderlying27 Try.sizeOf89 (by omega) (by omega))) ?_
          refine qv (fun w hS => (fa89_0 rfl)) ?_
          refine qv (fun w hS => (yLd rfl Try.isAgg3 ((hcsx.ext hS.ext).at (j := 0) rfl))) ?_
          refine qv (fun w hS => (yEql rfl rfl)) ?_
          refine qv (fun w hS => (yMove rfl)) ?_
          refine qg rfl rfl rfl (fun g w hS => (fa29_1 h4)) (fun v71 g71 => ?_)
          refine qg rfl rfl rfl (fun g w hS => (yLdB (g71.1 g) Try.isAgg27 (hS.at _) rfl)) (fun v72 g72 => ?_)
          refine qg rfl rfl rfl (fun g w hS => (yMove h10)) (fun v73 g73 => ?_)
          refine qg rfl rfl rfl (fun g w hS => (yIxa (g72.1 g) haq (g73.1 g) Try.runUnderlying27 Try.sizeOf89 (by omega) (by omega))) (fun v74 g74 => ?_)
          refine qg rfl rfl rfl (fun g w hS => (fa89_1 (g74.1 g))) (fun v75 g75 => ?_)
          refine qg rfl rfl rfl (fun g w hS => (yLd (g75.1 g) Try.isAgg3 ((hcsq.ext hS.ext).at (j := 1) rfl))) (fun v76 g76 => ?_)
          refine qg rfl rfl rfl (fun g w hS => (fa29_1 h4)) (fun v77 g77 => ?_)
          refine qg rfl rfl rfl (fun g w hS => (yLdB (g77.1 g) Try.isAgg27 (hS.at _) rfl)) (fun v78 g78 => ?_)
          refine qg rfl rfl rfl (fun g w hS => (yMove h9)) (fun v79 g79 => ?_)
          refine qg rfl rfl rfl (fun g w hS => (yIxa (g78.1 g) hax (g79.1 g) Try.runUnderlying27 Try.sizeOf89 (by omega) (by omega))) (fun v80 g80 => ?_)
          refine qg rfl rfl rfl (fun g w hS => (fa89_1 (g80.1 g))) (fun v81 g81 => ?_)
          refine qg rfl rfl rfl (fun g w hS => (yLd (g81.1 g) Try.isAgg3 ((hcsx.ext hS.ext).at (j := 1) rfl))) (fun v82 g82 => ?_)
          refine qg rfl rfl rfl (fun g w hS => (yEql (g76.1 g) (g82.1 g))) (fun v83 g83 => ?_)
          refine qv (fun w hS => (yAnd rfl (fun hB => (g83.1 hB)) rfl)) ?_
          clear hS; refine qnil (fun w hS => ?_)
          show Code.wp _ _ _ _ _
          refine cond rfl (fun c84 => ?_) (fun c84 => ?_)
          ·
            simp only [Bool.and_eq_true, Bool.or_eq_true, Bool.and_eq_false_iff, Bool.or_eq_false_iff, decide_eq_true_eq, decide_eq_false_iff_not, Bool.not_eq_true, Bool.not_eq_false, Bool.not_not, Bool.not_eq_eq_eq_not, Bool.not_true, Bool.not_false, Bool.false_eq_true, Bool.true_eq_false, ne_eq, Decidable.not_not, not_false_eq_true, not_true_eq_false] at c84
            refine seq ?_
            refine region ?_
            refine scall Try.call18 .nil c_Awake ?_
            rintro _ w ⟨rfl, hE⟩; replace hS := hS.step hE; clear hE
            refine sv (yAsg rfl) ?_
            refine nil ?_
            show Code.wp _ _ _ _ _
            refine wp_ret (blockR (thenR (thenR (blockR (blockR (thenR (thenR (blockR (thenR ?_)))))))))
            exact retV (res1 rfl rfl) hS.ext
          ·
            simp only [Bool.and_eq_true, Bool.or_eq_true, Bool.and_eq_false_iff, Bool.or_eq_false_iff, decide_eq_true_eq, decide_eq_false_iff_not, Bool.not_eq_true, Bool.not_eq_false, Bool.not_not, Bool.not_eq_eq_eq_not, Bool.not_true, Bool.not_false, Bool.false_eq_true, Bool.true_eq_false, ne_eq, Decidable.not_not, not_false_eq_true, not_true_eq_false] at c84
            refine skip ?_
            show Code.wp _ _ _ _ _
            refine region ?_
            refine sv (yMove h10) ?_
            refine sv (yAdd rfl rfl ⟨by omega, by omega⟩) ?_
            refine sv (yAsg rfl) ?_
            refine nil ?_
            exact ⟨_, _, rfl, ⟨k + 1, h2, h3, h4, h7, h9, rfl, hS, (by omega), (snoc hE (fun y' hy' e => by cases Option.some.inj (hxq.symm.trans hy'); exact c84.elim (fun h => h e.1) (fun h => h e.2))), rfl⟩, by omega⟩
        ·
          simp only [Bool.and_eq_true, Bool.or_eq_true, Bool.and_eq_false_iff, Bool.or_eq_false_iff, decide_eq_true_eq, decide_eq_false_iff_not, Bool.not_eq_true, Bool.not_eq_false, Bool.not_not, Bool.not_eq_eq_eq_not, Bool.not_true, Bool.not_false, Bool.false_eq_true, Bool.true_eq_false, ne_eq, Decidable.not_not, not_false_eq_true, not_true_eq_false] at c54
          refine exit ?_
          show Code.wp _ _ _ _ _
          refine region ?_
          refine sv (yMove h9) ?_
          refine sv (yAdd rfl rfl ⟨by omega, by omega⟩) ?_
          refine sv (yAsg rfl) ?_
          refine nil ?_
          exact ⟨_, _, rfl, ⟨i + 1, h2, h3, h4, h7, rfl, hS, (by omega), (snoc hD (fun k' x' y' hk' hx' hy' => by cases Option.some.inj (hxx.symm.trans hx'); exact hE k' (by omega) y' hy')), rfl⟩, by omega⟩
      ·
        simp only [Bool.and_eq_true, Bool.or_eq_true, Bool.and_eq_false_iff, Bool.or_eq_false_iff, decide_eq_true_eq, decide_eq_false_iff_not, Bool.not_eq_true, Bool.not_eq_false, Bool.not_not, Bool.not_eq_eq_eq_not, Bool.not_true, Bool.not_false, Bool.false_eq_true, Bool.true_eq_false, ne_eq, Decidable.not_not, not_false_eq_true, not_true_eq_false] at c49
        obtain rfl : i = s.steps.length := by omega
        have hDist : DistS s := fun q k x y hk hx hy => hD q (List.getElem?_eq_some_iff.1 hx).1 k x y hk hx hy
        refine exit ?_
        show Code.wp _ _ _ _ _
        refine seq ?_
        refine region ?_
        refine sv (yAsg rfl) ?_
        refine nil ?_
        show Code.wp _ _ _ _ _
        refine seq ?_
        refine region ?_
        refine sv (yAsg rfl) ?_
        refine nil ?_
        show Code.wp _ _ _ _ _
        refine seq ?_
        refine seq ?_
        refine region ?_
        refine sv (yAsg rfl) ?_
        refine nil ?_
        show Code.wp _ _ _ _ _
        refine block ?_
        refine loop (fun f w zz => ∃ (n : Nat) (acts : List Acn) (av : Value) (last : Int), f 2 = .int .i64 start ∧ f 3 = .pointer (some ⟨b3, 0, none⟩) ∧ f 4 = .pointer (some ⟨b4, 0, none⟩) ∧ f 7 = .slice (some ⟨gap, 0, none⟩) (planL c s start).length cp ∧ f 11 = av ∧ f 12 = .int .i64 last ∧ f 13 = .int .i64 (n : Int) ∧ StX [] w0 w [rowI av 53 6 (acts).length ((acts).flatMap actC), rowI (.slice (some ⟨gap, 0, none⟩) (planL c s start).length cp) 3 1 (planL c s start).length ((planL c s start).flatMap Bx.encI), blk b4 [.string s.name, .slice ax0 s.steps.length cps] 29, blk b3 [.slice a c.ops.length cap, .slice ak c.keys.length ck, .slice an c.kinds.length cn] 26] ∧ (DOut c s (planL c s start) last n acts) ∧ zz = (100001 - last).toNat) _ ⟨_, rfl, 0, [], _, -1, h2, h3, h4, h7, rfl, rfl, rfl, (hS.nilrow 53 6), (dOut_0 (fun y hy => by have := hpb y hy; omega)), rfl⟩ ?_
        clear hS
        rintro f w _ ⟨n, acts, av, last, h2, h3, h4, h7, h11, h12, h13, hS, hO, rfl⟩
        refine seq ?_
        refine seq ?_
        refine region ?_
        refine sv (yMove h13) ?_
        refine sv (yMove h7) ?_
        refine sv (yLen rfl Try.underlying30) ?_
        refine sv (yLss rfl rfl) ?_
        refine nil ?_
        show Code.wp _ _ _ _ _
        refine cond rfl (fun c89 => ?_) (fun c89 => ?_)
        ·
          simp only [Bool.and_eq_true, Bool.or_eq_true, Bool.and_eq_false_iff, Bool.or_eq_false_iff, decide_eq_true_eq, decide_eq_false_iff_not, Bool.not_eq_true, Bool.not_eq_false, Bool.not_not, Bool.not_eq_eq_eq_not, Bool.not_true, Bool.not_false, Bool.false_eq_true, Bool.true_eq_false, ne_eq, Decidable.not_not, not_false_eq_true, not_true_eq_false] at c89
          refine skip ?_
          show Code.wp _ _ _ _ _
          refine block ?_
          refine seq ?_
          refine region ?_
          have hnx := nx_le hO (fun y hy => (hpb y hy).2) (show n < (planL c s start).length by omega)
          have hnx1 : last < nxN (planL c s start) last (planL c s start).length := hnx.1
          have hnx2 : nxN (planL c s start) last (planL c s start).length ≤ 100000 := hnx.2
          have hlo := hO.lo
          refine sv (yAsg rfl) ?_
          refine nil ?_
          show Code.wp _ _ _ _ _
          refine seq ?_
          refine seq ?_
          refine region ?_
          refine sv (yAsg rfl) ?_
          refine nil ?_
          show Code.wp _ _ _ _ _
          refine block ?_
          refine loop (fun f w zz => ∃ (k : Nat), f 2 = .int .i64 start ∧ f 3 = .pointer (some ⟨b3, 0, none⟩) ∧ f 4 = .pointer (some ⟨b4, 0, none⟩) ∧ f 7 = .slice (some ⟨gap, 0, none⟩) (planL c s start).length cp ∧ f 11 = av ∧ f 12 = .int .i64 last ∧ f 13 = .int .i64 (n : Int) ∧ f 14 = .int .i64 (nxN (planL c s start) last k) ∧ f 15 = .int .i64 (k : Int) ∧ StX [] w0 w [rowI av 53 6 (acts).length ((acts).flatMap actC), rowI (.slice (some ⟨gap, 0, none⟩) (planL c s start).length cp) 3 1 (planL c s start).length ((planL c s start).flatMap Bx.encI), blk b4 [.string s.name, .slice ax0 s.steps.length cps] 29, blk b3 [.slice a c.ops.length cap, .slice ak c.keys.length ck, .slice an c.kinds.length cn] 26] ∧ (k ≤ (planL c s start).length) ∧ zz = (planL c s start).length - k) _ ⟨_, rfl, 0, h2, h3, h4, h7, h11, h12, h13, rfl, rfl, hS, (Nat.zero_le _), rfl⟩ ?_
          clear hS
          rintro f w _ ⟨k, h2, h3, h4, h7, h11, h12, h13, h14, h15, hS, hk, rfl⟩
          refine seq ?_
          refine seq ?_
          refine region ?_
          refine sv (yMove h15) ?_
          refine sv (yMove h7) ?_
          refine sv (yLen rfl Try.underlying30) ?_
          refine sv (yLss rfl rfl) ?_
          refine nil ?_
          show Code.wp _ _ _ _ _
          refine cond rfl (fun c93 => ?_) (fun c93 => ?_)
          ·
            simp only [Bool.and_eq_true, Bool.or_eq_true, Bool.and_eq_false_iff, Bool.or_eq_false_iff, decide_eq_true_eq, decide_eq_false_iff_not, Bool.not_eq_true, Bool.not_eq_false, Bool.not_not, Bool.not_eq_eq_eq_not, Bool.not_true, Bool.not_false, Bool.false_eq_true, Bool.true_eq_false, ne_eq, Decidable.not_not, not_false_eq_true, not_true_eq_false] at c93
            refine skip ?_
            show Code.wp _ _ _ _ _
            refine seq ?_
            refine block ?_
            refine seq ?_
            refine region ?_
            obtain ⟨y, hy, -⟩ := drop_of (l := planL c s start) (k := k) (by omega)
            refine sv (yMove h7) ?_
            refine sv (yMove h15) ?_
            refine sv (yIx0 rfl rfl Try.runUnderlying30 Try.sizeOf3 (by omega)) ?_
            refine sv (yLd rfl Try.isAgg3 ((flat_cells0 (enc := Bx.encI) encI_len (row_at (hS.row (.slice (some ⟨gap, 0, none⟩) (planL c s start).length cp)) rfl (by omega)) hy).one)) ?_
            refine sv (yMove h12) ?_
            refine sv (yGtr rfl rfl) ?_
            refine nil ?_
            show Code.wp _ _ _ _ _
            refine cond rfl (fun c101 => ?_) (fun c101 => ?_)
            ·
              simp only [Bool.and_eq_true, Bool.or_eq_true, Bool.and_eq_false_iff, Bool.or_eq_false_iff, decide_eq_true_eq, decide_eq_false_iff_not, Bool.not_eq_true, Bool.not_eq_false, Bool.not_not, Bool.not_eq_eq_eq_not, Bool.not_true, Bool.not_false, Bool.false_eq_true, Bool.true_eq_false, ne_eq, Decidable.not_not, not_false_eq_true, not_true_eq_false] at c101
              refine region ?_
              refine sv (yMove h14) ?_
              refine sv (yMove h7) ?_
              refine sv (yMove h15) ?_
              refine sv (yIx0 rfl rfl Try.runUnderlying30 Try.sizeOf3 (by omega)) ?_
              refine sv (yLd rfl Try.isAgg3 ((flat_cells0 (enc := Bx.encI) encI_len (row_at (hS.row (.slice (some ⟨gap, 0, none⟩) (planL c s start).length cp)) rfl (by omega)) hy).one)) ?_
              refine sv (yMin rfl rfl) ?_
              refine sv (yAsg rfl) ?_
              refine nil ?_
              show Code.wp _ _ _ _ _
              refine region ?_
              refine sv (yMove h15) ?_
              refine sv (yAdd rfl rfl ⟨by omega, by omega⟩) ?_
              refine sv (yAsg rfl) ?_
              refine nil ?_
              exact ⟨_, _, rfl, ⟨k + 1, h2, h3, h4, h7, h11, h12, h13, rfl.trans (congrArg (Value.int .i64) (nxN_hit hy c101).symm), rfl, hS, (by omega), rfl⟩, by omega⟩
            ·
              simp only [Bool.and_eq_true, Bool.or_eq_true, Bool.and_eq_false_iff, Bool.or_eq_false_iff, decide_eq_true_eq, decide_eq_false_iff_not, Bool.not_eq_true, Bool.not_eq_false, Bool.not_not, Bool.not_eq_eq_eq_not, Bool.not_true, Bool.not_false, Bool.false_eq_true, Bool.true_eq_false, ne_eq, Decidable.not_not, not_false_eq_true, not_true_eq_false] at c101
              refine skip ?_
              show Code.wp _ _ _ _ _
              refine region ?_
              refine sv (yMove h15) ?_
              refine sv (yAdd rfl rfl ⟨by omega, by omega⟩) ?_
              refine sv (yAsg rfl) ?_
              refine nil ?_
              exact ⟨_, _, rfl, ⟨k + 1, h2, h3, h4, h7, h11, h12, h13, h14.trans (congrArg (Value.int .i64) (nxN_skip hy c101).symm), rfl, hS, (by omega), rfl⟩, by omega⟩
          ·
            simp only [Bool.and_eq_true, Bool.or_eq_true, Bool.and_eq_false_iff, Bool.or_eq_false_iff, decide_eq_true_eq, decide_eq_false_iff_not, Bool.not_eq_true, Bool.not_eq_false, Bool.not_not, Bool.not_eq_eq_eq_not, Bool.not_true, Bool.not_false, Bool.false_eq_true, Bool.true_eq_false, ne_eq, Decidable.not_not, not_false_eq_true, not_true_eq_false] at c93
            obtain rfl : k = (planL c s start).length := by omega
            refine exit ?_
            show Code.wp _ _ _ _ _
            refine seq ?_
            refine seq ?_
            refine region ?_
            refine sv (yAsg rfl) ?_
            refine nil ?_
            show Code.wp _ _ _ _ _
            refine block ?_
            refine loop (fun f w zz => ∃ (j : Nat) (n2 : Nat) (acts2 : List Acn) (av2 : Value), f 2 = .int .i64 start ∧ f 3 = .pointer (some ⟨b3, 0, none⟩) ∧ f 4 = .pointer (some ⟨b4, 0, none⟩) ∧ f 7 = .slice (some ⟨gap, 0, none⟩) (planL c s start).length cp ∧ f 11 = av2 ∧ f 12 = .int .i64 last ∧ f 13 = .int .i64 (n2 : Int) ∧ f 14 = .int .i64 (nxN (planL c s start) last (planL c s start).length) ∧ f 16 = .int .i64 (j : Int) ∧ StX [] w0 w [rowI av2 53 6 (acts2).length ((acts2).flatMap actC), rowI (.slice (some ⟨gap, 0, none⟩) (planL c s start).length cp) 3 1 (planL c s start).length ((planL c s start).flatMap Bx.encI), blk b4 [.string s.name, .slice ax0 s.steps.length cps] 29, blk b3 [.slice a c.ops.length cap, .slice ak c.keys.length ck, .slice an c.kinds.length cn] 26] ∧ (j ≤ (planL c s start).length) ∧ (DIn c s (planL c s start) last (nxN (planL c s start) last (planL c s start).length) j n2 acts2) ∧ zz = (planL c s start).length - j) _ ⟨_, rfl, 0, n, acts, av, h2, h3, h4, h7, h11, h12, h13, h14, rfl, hS, (Nat.zero_le _), (dIn_0 hO hnx1), rfl⟩ ?_
            clear hS
            rintro f w _ ⟨j, n2, acts2, av2, h2, h3, h4, h7, h11, h12, h13, h14, h16, hS, hj, hI, rfl⟩
            refine seq ?_
            refine seq ?_
            refine region ?_
            refine sv (yMove h16) ?_
            refine sv (yMove h7) ?_
            refine sv (yLen rfl Try.underlying30) ?_
            refine sv (yLss rfl rfl) ?_
            refine nil ?_
            show Code.wp _ _ _ _ _
            refine cond rfl (fun c111 => ?_) (fun c111 => ?_)
            ·
              simp only [Bool.and_eq_true, Bool.or_eq_true, Bool.and_eq_false_iff, Bool.or_eq_false_iff, decide_eq_true_eq, decide_eq_false_iff_not, Bool.not_eq_true, Bool.not_eq_false, Bool.not_not, Bool.not_eq_eq_eq_not, Bool.not_true, Bool.not_false, Bool.false_eq_true, Bool.true_eq_false, ne_eq, Decidable.not_not, not_false_eq_true, not_true_eq_false] at c111
              refine skip ?_
              show Code.wp _ _ _ _ _
              refine seq ?_
              refine block ?_
              refine seq ?_
              refine seq ?_
              refine region ?_
              obtain ⟨y, hy, -⟩ := drop_of (l := planL c s start) (k := j) (by omega)
              refine sv (yMove h7) ?_
              refine sv (yMove h16) ?_
              refine sv (yIx0 rfl rfl Try.runUnderlying30 Try.sizeOf3 (by omega)) ?_
              refine sv (yLd rfl Try.isAgg3 ((flat_cells0 (enc := Bx.encI) encI_len (row_at (hS.row (.slice (some ⟨gap, 0, none⟩) (planL c s start).length cp)) rfl (by omega)) hy).one)) ?_
              refine sv (yMove h14) ?_
              refine sv (yNeq rfl rfl) ?_
              refine nil ?_
              show Code.wp _ _ _ _ _
              refine cond rfl (fun c119 => ?_) (fun c119 => ?_)
              ·
                simp only [Bool.and_eq_true, Bool.or_eq_true, Bool.and_eq_false_iff, Bool.or_eq_false_iff, decide_eq_true_eq, decide_eq_false_iff_not, Bool.not_eq_true, Bool.not_eq_false, Bool.not_not, Bool.not_eq_eq_eq_not, Bool.not_true, Bool.not_false, Bool.false_eq_true, Bool.true_eq_false, ne_eq, Decidable.not_not, not_false_eq_true, not_true_eq_false] at c119
                refine exit ?_
                show Code.wp _ _ _ _ _
                refine region ?_
                refine sv (yMove h16) ?_
                refine sv (yAdd rfl rfl ⟨by omega, by omega⟩) ?_
                refine sv (yAsg rfl) ?_
                refine nil ?_
                exact ⟨_, _, rfl, ⟨j + 1, n2, acts2, av2, h2, h3, h4, h7, h11, h12, h13, h14, rfl, hS, (by omega), (dIn_skip hI hy c119), rfl⟩, by omega⟩
              ·
                simp only [Bool.and_eq_true, Bool.or_eq_true, Bool.and_eq_false_iff, Bool.or_eq_false_iff, decide_eq_true_eq, decide_eq_false_iff_not, Bool.not_eq_true, Bool.not_eq_false, Bool.not_not, Bool.not_eq_eq_eq_not, Bool.not_true, Bool.not_false, Bool.false_eq_true, Bool.true_eq_false, ne_eq, Decidable.not_not, not_false_eq_true, not_true_eq_false] at c119
                refine skip ?_
                show Code.wp _ _ _ _ _
                refine seq ?_
                refine region_draw mixed (by kernel_rfl) hS ?_
                subst c119
                obtain ⟨x, hxx, hdx⟩ := drop_of (l := s.steps) (k := j) (by omega)
                obtain ⟨bx, ox, csx, hax, hlenx, hcsx, hRx⟩ := hels (j) (by omega)
                obtain rfl : x = s.steps[j] := (List.getElem?_eq_some_iff.1 hxx).2.symm
                generalize s.steps[j] = x at hxx hdx hRx
                obtain ⟨rfl, hxi⟩ := hRx
                have hE1 : (ableF c x.kind (nxN (planL c s start) last (planL c s start).length)).2.2 = 0 := (hag.at_ j x _ hxx hy).1
                have hsx := hok.steps j x hxx
                have hsxk := hsx.kind
                have hn2 := dIn_n hI (by omega)
                refine qv (fun w hS => (yLdBA h3 Try.isAgg26 Try.sizeOf26 (hS.at _) rfl rfl)) ?_
                refine qv (fun w hS => (fa29_1 h4)) ?_
                refine qv (fun w hS => (yLdB rfl Try.isAgg27 (hS.at _) rfl)) ?_
                refine qv (fun w hS => (yMove h16)) ?_
                refine qv (fun w hS => (yIxa rfl hax rfl Try.runUnderlying27 Try.sizeOf89 (by omega) (by omega))) ?_
                refine qv (fun w hS => (fa89_0 rfl)) ?_
                refine qv (fun w hS => (yLd rfl Try.isAgg3 ((hcsx.ext hS.ext).at (j := 0) rfl))) ?_
                refine qv (fun w hS => (yMove h14)) ?_
                refine qcall Try.call29 (.cons rfl (.cons rfl (.cons rfl .nil))) (fun w hS => (c_Able (h.ext hS.ext))) ?_
                refine qv (fun w hS => (yMove rfl)) ?_
                refine qv (fun w hS => (yExt rfl rfl)) ?_
                refine qv (fun w hS => (yExt rfl rfl)) ?_
                refine qv (fun w hS => (yExt rfl rfl)) ?_
                refine qv (fun w hS => (yAsg rfl)) ?_
                refine qv (fun w hS => (yAsg rfl)) ?_
                refine qv (fun w hS => (yAsg rfl)) ?_
                clear hS; refine qnil (fun w hS => ?_)
                show Code.wp _ _ _ _ _
                refine seq ?_
                refine seq ?_
                refine region_draw mixed (by kernel_rfl) hS ?_
                refine qv (fun w hS => (yMove rfl)) ?_
                refine qv (fun w hS => (yNeq rfl rfl)) ?_
                refine qv (fun w hS => (yMove rfl)) ?_
                refine qg rfl rfl rfl (fun g w hS => (fa29_1 h4)) (fun v136 g136 => ?_)
                refine qg rfl rfl rfl (fun g w hS => (yLdB (g136.1 g) Try.isAgg27 (hS.at _) rfl)) (fun v137 g137 => ?_)
                refine qg rfl rfl rfl (fun g w hS => (yMove h16)) (fun v138 g138 => ?_)
                refine qg rfl rfl rfl (fun g w hS => (yIxa (g137.1 g) hax (g138.1 g) Try.runUnderlying27 Try.sizeOf89 (by omega) (by omega))) (fun v139 g139 => ?_)
                refine qg rfl rfl rfl (fun g w hS => (fa89_0 (g139.1 g))) (fun v140 g140 => ?_)
                refine qg rfl rfl rfl (fun g w hS => (yLd (g140.1 g) Try.isAgg3 ((hcsx.ext hS.ext).at (j := 0) rfl))) (fun v141 g141 => ?_)
                refine qg rfl rfl rfl (fun g w hS => (yLss (g141.1 g) rfl)) (fun v142 g142 => ?_)
                refine qv (fun w hS => (yOr rfl rfl (fun hB => (g142.1 hB)))) ?_
                refine qv (fun w hS => (yMove rfl)) ?_
                refine qg rfl rfl rfl (fun g w hS => (fa29_1 h4)) (fun v145 g145 => ?_)
                refine qg rfl rfl rfl (fun g w hS => (yLdB (g145.1 g) Try.isAgg27 (hS.at _) rfl)) (fun v146 g146 => ?_)
                refine qg rfl rfl rfl (fun g w hS => (yMove h16)) (fun v147 g147 => ?_)
                refine qg rfl rfl rfl (fun g w hS => (yIxa (g146.1 g) hax (g147.1 g) Try.runUnderlying27 Try.sizeOf89 (by omega) (by omega))) (fun v148 g148 => ?_)
                refine qg rfl rfl rfl (fun g w hS => (fa89_0 (g148.1 g))) (fun v149 g149 => ?_)
                refine qg rfl rfl rfl (fun g w hS => (yLd (g149.1 g) Try.isAgg3 ((hcsx.ext hS.ext).at (j := 0) rfl))) (fun v150 g150 => ?_)
                refine qg rfl rfl rfl (fun g w hS => (fa26_2 h3)) (fun v151 g151 => ?_)
                refine qg rfl rfl rfl (fun g w hS => (yLdB (g151.1 g) Try.isAgg24 (hS.at _) rfl)) (fun v152 g152 => ?_)
                refine qg rfl rfl rfl (fun g w hS => (yLen (g152.1 g) Try.underlying24)) (fun v153 g153 => ?_)
                refine qg rfl rfl rfl (fun g w hS => (yGeq (g150.1 g) (g153.1 g))) (fun v154 g154 => ?_)
                refine qv (fun w hS => (yOr rfl rfl (fun hB => (g154.1 hB)))) ?_
                clear hS; refine qnil (fun w hS => ?_)
                show Code.wp _ _ _ _ _
                refine cond rfl (fun c155 => ?_) (fun c155 => ?_)
                ·
                  simp only [Bool.and_eq_true, Bool.or_eq_true, Bool.and_eq_false_iff, Bool.or_eq_false_iff, decide_eq_true_eq, decide_eq_false_iff_not, Bool.not_eq_true, Bool.not_eq_false, Bool.not_not, Bool.not_eq_eq_eq_not, Bool.not_true, Bool.not_false, Bool.false_eq_true, Bool.true_eq_false, ne_eq, Decidable.not_not, not_false_eq_true, not_true_eq_false] at c155
                  exfalso
                  rcases c155 with (e | e) | e
                  · exact e hE1
                  · omega
                  · omega
                ·
                  simp only [Bool.and_eq_true, Bool.or_eq_true, Bool.and_eq_false_iff, Bool.or_eq_false_iff, decide_eq_true_eq, decide_eq_false_iff_not, Bool.not_eq_true, Bool.not_eq_false, Bool.not_not, Bool.not_eq_eq_eq_not, Bool.not_true, Bool.not_false, Bool.false_eq_true, Bool.true_eq_false, ne_eq, Decidable.not_not, not_false_eq_true, not_true_eq_false] at c155
                  refine skip ?_
                  show Code.wp _ _ _ _ _
                  refine seq ?_
                  refine region_tail mixed 19 (by kernel_rfl) hS ?_
                  obtain ⟨kk, hkk⟩ := Int.eq_ofNat_of_zero_le hsxk.1
                  have hkl : kk < c.kinds.length := by omega
                  obtain ⟨z, hxt, hdt⟩ := drop_of (l := c.kinds) (k := kk) (by omega)
                  obtain ⟨bt, ot, cst, hat, hlent, hcst, hRt⟩ := heln (kk) (by omega)
                  obtain rfl : z = c.kinds[kk] := (List.getElem?_eq_some_iff.1 hxt).2.symm
                  generalize c.kinds[kk] = z at hxt hdt hRt
                  obtain ⟨xv, rfl, hzr⟩ := hRt
                  have hz := kndAt_hit hkk hxt
                  have hk8 := keys8 hok.crew hsxk hz
                  refine qv (fun w hS => (yMove h11)) ?_
                  refine qv (fun w hS => (fa26_2 h3)) ?_
                  refine qv (fun w hS => (yLdB rfl Try.isAgg24 (hS.at _) rfl)) ?_
                  refine qv (fun w hS => (fa29_1 h4)) ?_
                  refine qv (fun w hS => (yLdB rfl Try.isAgg27 (hS.at _) rfl)) ?_
                  refine qv (fun w hS => (yMove h16)) ?_
                  refine qv (fun w hS => (yIxa rfl hax rfl Try.runUnderlying27 Try.sizeOf89 (by omega) (by omega))) ?_
                  refine qv (fun w hS => (fa89_0 rfl)) ?_
                  refine qv (fun w hS => (yLd rfl Try.isAgg3 ((hcsx.ext hS.ext).at (j := 0) rfl))) ?_
                  refine qv (fun w hS => (yIxa rfl hat (rfl.trans (congrArg (Value.int .i64) hkk)) Try.runUnderlying24 Try.sizeOf79 (by omega) (by omega))) ?_
                  refine qv (fun w hS => (yLdA rfl Try.isAgg79 Try.sizeOf79 (hcst.ext hS.ext) rfl)) ?_
                  refine qv (fun w hS => (fa29_1 h4)) ?_
                  refine qv (fun w hS => (yLdB rfl Try.isAgg27 (hS.at _) rfl)) ?_
                  refine qv (fun w hS => (yMove h16)) ?_
                  refine qv (fun w hS => (yIxa rfl hax rfl Try.runUnderlying27 Try.sizeOf89 (by omega) (by omega))) ?_
                  refine qv (fun w hS => (yLdA rfl Try.isAgg89 Try.sizeOf89 (hcsx.ext hS.ext) rfl)) ?_
                  refine qv (fun w hS => (yMove h14)) ?_
                  refine qv (fun w hS => (yMove rfl)) ?_
                  refine qv (fun w hS => (yMove rfl)) ?_
                  clear hS; refine qtl (fun w hS => ?_)
                  refine scall Try.call37 (.cons rfl (.cons rfl (.cons rfl (.cons rfl (.cons rfl (.cons rfl .nil)))))) (c_done (x := z) (s := x) ⟨xv, rfl, hzr⟩ hk8 (by omega) hS) ?_
                  rintro _ w ⟨v3, rfl, hS2⟩; clear hS; have hS := hS2; clear hS2
                  refine sv (yAsg rfl) ?_
                  refine nil ?_
                  show Code.wp _ _ _ _ _
                  refine region ?_
                  refine sv (yMove h13) ?_
                  refine sv (yAdd rfl rfl ⟨by omega, by omega⟩) ?_
                  refine sv (yAsg rfl) ?_
                  refine nil ?_
                  show Code.wp _ _ _ _ _
                  refine region ?_
                  refine sv (yMove h16) ?_
                  refine sv (yAdd rfl rfl ⟨by omega, by omega⟩) ?_
                  refine sv (yAsg rfl) ?_
                  refine nil ?_
                  exact ⟨_, _, rfl, ⟨j + 1, n2 + 1, _, _, h2, h3, h4, h7, rfl, h12, rfl, h14, rfl, hS, (by omega), (by have := dIn_do hI hok hy hxx (ableF_pair (crew_of hsc) hsx.kind hE1); rw [hz] at this; exact this), rfl⟩, by omega⟩
            ·
              simp only [Bool.and_eq_true, Bool.or_eq_true, Bool.and_eq_false_iff, Bool.or_eq_false_iff, decide_eq_true_eq, decide_eq_false_iff_not, Bool.not_eq_true, Bool.not_eq_false, Bool.not_not, Bool.not_eq_eq_eq_not, Bool.not_true, Bool.not_false, Bool.false_eq_true, Bool.true_eq_false, ne_eq, Decidable.not_not, not_false_eq_true, not_true_eq_false] at c111
              obtain rfl : j = (planL c s start).length := by omega
              have hO2 := dIn_end hI (Nat.le_refl _) (nx_split hlo.2) hlo.1 hnx2
              refine exit ?_
              show Code.wp _ _ _ _ _
              refine seq ?_
              refine seq ?_
              refine region ?_
              refine sv (yMove h14) ?_
              refine sv (yGtr rfl rfl) ?_
              refine nil ?_
              show Code.wp _ _ _ _ _
              refine cond rfl (fun c179 => ?_) (fun c179 => ?_)
              ·
                simp only [Bool.and_eq_true, Bool.or_eq_true, Bool.and_eq_false_iff, Bool.or_eq_false_iff, decide_eq_true_eq, decide_eq_false_iff_not, Bool.not_eq_true, Bool.not_eq_false, Bool.not_not, Bool.not_eq_eq_eq_not, Bool.not_true, Bool.not_false, Bool.false_eq_true, Bool.true_eq_false, ne_eq, Decidable.not_not, not_false_eq_true, not_true_eq_false] at c179
                exfalso; omega
              ·
                simp only [Bool.and_eq_true, Bool.or_eq_true, Bool.and_eq_false_iff, Bool.or_eq_false_iff, decide_eq_true_eq, decide_eq_false_iff_not, Bool.not_eq_true, Bool.not_eq_false, Bool.not_not, Bool.not_eq_eq_eq_not, Bool.not_true, Bool.not_false, Bool.false_eq_true, Bool.true_eq_false, ne_eq, Decidable.not_not, not_false_eq_true, not_true_eq_false] at c179
                refine skip ?_
                show Code.wp _ _ _ _ _
                refine region ?_
                refine sv (yMove h14) ?_
                refine sv (yAsg rfl) ?_
                refine nil ?_
                exact ⟨_, _, rfl, ⟨n2, acts2, av2, nxN (planL c s start) last (planL c s start).length, h2, h3, h4, h7, h11, rfl, h13, hS, (hO2), rfl⟩, by omega⟩
        ·
          simp only [Bool.and_eq_true, Bool.or_eq_true, Bool.and_eq_false_iff, Bool.or_eq_false_iff, decide_eq_true_eq, decide_eq_false_iff_not, Bool.not_eq_true, Bool.not_eq_false, Bool.not_not, Bool.not_eq_eq_eq_not, Bool.not_true, Bool.not_false, Bool.false_eq_true, Bool.true_eq_false, ne_eq, Decidable.not_not, not_false_eq_true, not_true_eq_false] at c89
          have hn9 := dOut_n hO (by omega)
          obtain ⟨aA, cA, rfl⟩ := row_shape (hS.row av)
          refine exit ?_
          show Code.wp _ _ _ _ _
          refine seq ?_
          refine seq ?_
          refine region ?_
          refine sv (yMove h11) ?_
          refine sv (yLen rfl Try.underlying37) ?_
          refine sv (yGtr rfl rfl) ?_
          refine nil ?_
          show Code.wp _ _ _ _ _
          refine cond rfl (fun c183 => ?_) (fun c183 => ?_)
          ·
            simp only [Bool.and_eq_true, Bool.or_eq_true, Bool.and_eq_false_iff, Bool.or_eq_false_iff, decide_eq_true_eq, decide_eq_false_iff_not, Bool.not_eq_true, Bool.not_eq_false, Bool.not_not, Bool.not_eq_eq_eq_not, Bool.not_true, Bool.not_false, Bool.false_eq_true, Bool.true_eq_false, ne_eq, Decidable.not_not, not_false_eq_true, not_true_eq_false] at c183
            refine seq ?_
            refine region ?_
            refine scall Try.call18 .nil c_Awake ?_
            rintro _ w ⟨rfl, hE⟩; replace hS := hS.step hE; clear hE
            refine sv (yAsg rfl) ?_
            refine nil ?_
            show Code.wp _ _ _ _ _
            refine wp_ret (thenR ?_)
            exact retV (res1 rfl rfl) hS.ext
          ·
            simp only [Bool.and_eq_true, Bool.or_eq_true, Bool.and_eq_false_iff, Bool.or_eq_false_iff, decide_eq_true_eq, decide_eq_false_iff_not, Bool.not_eq_true, Bool.not_eq_false, Bool.not_not, Bool.not_eq_eq_eq_not, Bool.not_true, Bool.not_false, Bool.false_eq_true, Bool.true_eq_false, ne_eq, Decidable.not_not, not_false_eq_true, not_true_eq_false] at c183
            obtain ⟨hp0, hj0, hjl, hk0⟩ := drill_ok c32 hDist hO (by omega) (by omega)
            have hkl9 : (playK c acts).length ≤ 8 := by rw [hk0, List.length_replicate]; exact hok.crew.nkeys
            refine skip ?_
            show Code.wp _ _ _ _ _
            refine seq ?_
            refine region ?_
            refine sv (yLdBA h3 Try.isAgg26 Try.sizeOf26 (hS.at _) rfl rfl) ?_
            refine sv (yLdBA h4 Try.isAgg29 Try.sizeOf29 (hS.at _) rfl rfl) ?_
            refine sv (yMove h2) ?_
            refine sv (yMove h11) ?_
            refine scall Try.call38 (.cons rfl (.cons rfl (.cons rfl (.cons rfl .nil)))) (c_Judge (h.ext hS.ext) (hs.ext hS.ext) hsi (sl_acts (hS.row (.slice aA acts.length cA)) rfl (acts_64 hp0))) ?_
            rintro _ w ⟨jv, rfl, hM⟩; replace hS := hS.call1 hM; clear hM
            obtain ⟨aj, cj, rfl⟩ := row_shape (hS.row jv)
            refine sv (yMove rfl) ?_
            refine sv (yExt rfl rfl) ?_
            refine sv (yExt rfl rfl) ?_
            refine sv (yAsg rfl) ?_
            refine sv (yAsg rfl) ?_
            refine nil ?_
            show Code.wp _ _ _ _ _
            refine seq ?_
            refine region ?_
            refine sv (yLdBA h3 Try.isAgg26 Try.sizeOf26 (hS.at _) rfl rfl) ?_
            refine sv (yMove h11) ?_
            refine scall Try.call30 (.cons rfl (.cons rfl .nil)) (c_Keys (h.ext hS.ext) (sl_acts (hS.row (.slice aA acts.length cA)) rfl (acts_64 hp0))) ?_
            rintro _ w ⟨kv3, rfl, hM⟩; replace hS := hS.call1 hM; clear hM
            obtain ⟨aK, cK, rfl⟩ := row_shape (hS.row kv3)
            refine sv (yMove rfl) ?_
            refine sv (yExt rfl rfl) ?_
            refine sv (yExt rfl rfl) ?_
            refine sv (yAsg rfl) ?_
            refine sv (yAsg rfl) ?_
            refine nil ?_
            show Code.wp _ _ _ _ _
            refine seq ?_
            refine seq ?_
            refine region ?_
            refine sv (yAsg rfl) ?_
            refine nil ?_
            show Code.wp _ _ _ _ _
            refine block ?_
            refine loop (fun f w zz => ∃ (k : Nat), f 8 = .int .i64 (judE c s start acts) ∧ f 20 = .slice aj (judL c s start acts).length cj ∧ f 21 = .slice aK (playK c acts).length cK ∧ f 22 = .int .i64 (playE c acts) ∧ f 23 = .int .i64 (k : Int) ∧ StX [] w0 w [rowI (.slice aK (playK c acts).length cK) 3 1 (playK c acts).length ((playK c acts).flatMap Bx.encI)] ∧ (k ≤ (playK c acts).length) ∧ zz = (playK c acts).length - k) _ ⟨_, rfl, 0, rfl, rfl, rfl, rfl, rfl, (hS.one _), (Nat.zero_le _), rfl⟩ ?_
            clear hS
            rintro f w _ ⟨k, h8, h20, h21, h22, h23, hS, hk, rfl⟩
            refine seq ?_
            refine seq ?_
            refine region ?_
            refine sv (yMove h23) ?_
            refine sv (yMove h21) ?_
            refine sv (yLen rfl Try.underlying30) ?_
            refine sv (yLss rfl rfl) ?_
            refine nil ?_
            show Code.wp _ _ _ _ _
            refine cond rfl (fun c202 => ?_) (fun c202 => ?_)
            ·
              simp only [Bool.and_eq_true, Bool.or_eq_true, Bool.and_eq_false_iff, Bool.or_eq_false_iff, decide_eq_true_eq, decide_eq_false_iff_not, Bool.not_eq_true, Bool.not_eq_false, Bool.not_not, Bool.not_eq_eq_eq_not, Bool.not_true, Bool.not_false, Bool.false_eq_true, Bool.true_eq_false, ne_eq, Decidable.not_not, not_false_eq_true, not_true_eq_false] at c202
              refine skip ?_
              show Code.wp _ _ _ _ _
              refine seq ?_
              refine block ?_
              refine seq ?_
              refine region ?_
              obtain ⟨y, hy, -⟩ := drop_of (l := playK c acts) (k := k) (by omega)
              have hz1 : y = -1 := by
                have hm := List.mem_of_getElem? hy
                rw [hk0] at hm
                exact (List.mem_replicate.1 hm).2
              obtain ⟨gak, rfl, -⟩ := row_get (hS.row (.slice aK (playK c acts).length cK)) (by omega)
              refine sv (yMove h21) ?_
              refine sv (yMove h23) ?_
              refine sv (yIx0 rfl rfl Try.runUnderlying30 Try.sizeOf3 (by omega)) ?_
              refine sv (yLd rfl Try.isAgg3 ((flat_cells0 (enc := Bx.encI) encI_len (row_at (hS.row (.slice (some ⟨gak, 0, none⟩) (playK c acts).length cK)) rfl (by omega)) hy).one)) ?_
              refine sv (yNeq rfl rfl) ?_
              refine nil ?_
              show Code.wp _ _ _ _ _
              refine cond rfl (fun c209 => ?_) (fun c209 => ?_)
              ·
                simp only [Bool.and_eq_true, Bool.or_eq_true, Bool.and_eq_false_iff, Bool.or_eq_false_iff, decide_eq_true_eq, decide_eq_false_iff_not, Bool.not_eq_true, Bool.not_eq_false, Bool.not_not, Bool.not_eq_eq_eq_not, Bool.not_true, Bool.not_false, Bool.false_eq_true, Bool.true_eq_false, ne_eq, Decidable.not_not, not_false_eq_true, not_true_eq_false] at c209
                exact absurd hz1 c209
              ·
                simp only [Bool.and_eq_true, Bool.or_eq_true, Bool.and_eq_false_iff, Bool.or_eq_false_iff, decide_eq_true_eq, decide_eq_false_iff_not, Bool.not_eq_true, Bool.not_eq_false, Bool.not_not, Bool.not_eq_eq_eq_not, Bool.not_true, Bool.not_false, Bool.false_eq_true, Bool.true_eq_false, ne_eq, Decidable.not_not, not_false_eq_true, not_true_eq_false] at c209
                refine skip ?_
                show Code.wp _ _ _ _ _
                refine region ?_
                refine sv (yMove h23) ?_
                refine sv (yAdd rfl rfl ⟨by omega, by omega⟩) ?_
                refine sv (yAsg rfl) ?_
                refine nil ?_
                exact ⟨_, _, rfl, ⟨k + 1, h8, h20, h21, h22, rfl, hS, (by omega), rfl⟩, by omega⟩
            ·
              simp only [Bool.and_eq_true, Bool.or_eq_true, Bool.and_eq_false_iff, Bool.or_eq_false_iff, decide_eq_true_eq, decide_eq_false_iff_not, Bool.not_eq_true, Bool.not_eq_false, Bool.not_not, Bool.not_eq_eq_eq_not, Bool.not_true, Bool.not_false, Bool.false_eq_true, Bool.true_eq_false, ne_eq, Decidable.not_not, not_false_eq_true, not_true_eq_false] at c202
              refine exit ?_
              show Code.wp _ _ _ _ _
              refine seq ?_
              refine region ?_
              refine sv (yMove h8) ?_
              refine sv (yEql rfl rfl) ?_
              refine sv (yMove rfl) ?_
              refine sg rfl rfl rfl (fun g => (yMove h22)) (fun v213 g213 => ?_)
              refine sg rfl rfl rfl (fun g => (yEql (g213.1 g) rfl)) (fun v214 g214 => ?_)
              refine sv (yAnd rfl (fun hB => (g214.1 hB)) rfl) ?_
              refine sv (yMove rfl) ?_
              refine sg rfl rfl rfl (fun g => (yMove h20)) (fun v217 g217 => ?_)
              refine sg rfl rfl rfl (fun g => (yLen (g217.1 g) Try.underlying91)) (fun v218 g218 => ?_)
              refine sg rfl rfl rfl (fun g => (yEql (g218.1 g) rfl)) (fun v219 g219 => ?_)
              refine sv (yAnd rfl (fun hB => (g219.1 hB)) rfl) ?_
              refine sv (yMove rfl) ?_
              refine sgc hS rfl rfl rfl Try.call18 (fun g => .nil) (fun g => c_Awake) ?_; clear hS; intro v222 w hS g222
              refine sv (yAnd rfl (fun hB => (g222.1 hB)) rfl) ?_
              refine sv (yAsg rfl) ?_
              refine nil ?_
              show Code.wp _ _ _ _ _
              refine wp_ret ?_
              exact retV (res1 rfl (eqB (by simp [hj0, hp0, hjl]))) hS.ext
end Go.Proofs.Ytghgnofilbnbaaa
/- part LibM -/
namespace Bx
open Go Go.RowKit
def WOk {H : Type} (P : Program) (t : TypeId) (d : DataW H) : Prop := ∀ n ∈ d.weights P t, n ≤ 140737488351232
def RdW {α : Type} (P : Program) (t : TypeId) (R : World → List Value → α → Prop) : Prop :=
  ∀ (H : Type) (enc : TypeId × Value → H) (w : World) (base : Nat) (spare : Nat → Bool) (held : Bool) (fuel : Nat) (cs : List Value) (x : DataW H × List MemPlace), DataW.trod enc P w base spare held fuel t cs = some x → WOk P t x.1 → ∃ a, R w cs a
theorem Rd.w {α : Type} {P : Program} {t : TypeId} {R : World → List Value → α → Prop} (h : Rd P t R) : RdW P t R := fun H enc w base spare held fuel cs x hx _ => h H enc w base spare held fuel cs x hx
section
variable {P : Program} {t e : TypeId}
theorem weightsAll_mem {H : Type} {P : Program} {e : TypeId} : ∀ {l : List (DataW H)} {d : DataW H}, d ∈ l → ∀ n ∈ d.weights P e, n ∈ DataW.weightsAll P e l
  | a :: l, d, hd, n, hn => by
    unfold DataW.weightsAll
    rcases List.mem_cons.1 hd with rfl | hd
    · exact List.mem_append_left _ hn
    · exact List.mem_append_right _ (weightsAll_mem hd n hn)
theorem rdw_slice {α : Type} {R : World → List Value → α → Prop} {k bytes : Nat} (hR : RdW P e R) (hk : P.cellsOf e = k) (h0 : 0 < k) (ht : P.underlying t = some (.slice e)) (hb : P.bytesOf e = bytes) : RdW P t (fun w cs (l : List α) => ∃ v, cs = [v] ∧ Sl w k R v l ∧ l.length * bytes ≤ 140737488351232) := by
  intro H enc w base spare held fuel cs x h hW
  rcases Deep.open_slice ht h with ⟨rfl, _⟩ | ⟨a, len, cap, m, n, D, Pl, rfl, _, hl, hm, hmm, rfl, hx⟩
  · exact ⟨[], _, rfl, Sl.nil, by simp⟩
  · have hlm : len ≤ m := by rw [hmm]; split <;> omega
    rw [hk] at hx
    unfold WOk at hW
    simp only [DataW.weights, ht] at hW
    have hbd := hW _ (List.mem_cons_self ..)
    have hel : ∀ i, i < len → WOk P e (D i) := fun i hi n hn => hW n (List.mem_cons_of_mem _ (List.mem_append_left _ (weightsAll_mem (List.mem_map.2 ⟨i, List.mem_range.2 hi, rfl⟩) n hn)))
    obtain ⟨l, hll, hp⟩ := list_of (p := fun i x => ∃ cs, w.cells? base (a.add (i * k)) k = some cs ∧ R w cs x) len (fun i hi => by
      obtain ⟨cs, h1, h2⟩ := hx i (by omega)
      obtain ⟨y, hy⟩ := hR H enc w base spare held n cs _ h2 (hel i hi)
      exact ⟨y, cs, h1, hy⟩)
    refine ⟨l, _, rfl, ⟨some a, cap, by rw [hll], by omega, by simp only [maxLen] at hm; omega, fun i hi => ?_⟩, ?_⟩
    · obtain ⟨cs, h1, h2⟩ := hp i hi
      obtain ⟨cs0, h01, _⟩ := hp 0 (by omega)
      obtain ⟨_, hl0, hc0⟩ := World.cells?_some h01
      have ha := addr_of ((hc0 0 h0).trans (List.getElem?_eq_getElem (by omega)))
      obtain ⟨_, hlc, hc⟩ := World.cells?_some h1
      obtain ⟨b, o, s⟩ := a
      have hs : s = none := by
        have : (0 : Nat) * k = 0 := Nat.zero_mul k
        simp only [this, Addr.add, if_true] at ha
        simpa using ha
      subst hs
      refine ⟨b, o, cs, rfl, hlc, fun j v hv => ?_, h2⟩
      have hj : j < k := by have := (List.getElem?_eq_some_iff.1 hv).1; omega
      have := (hc j hj).trans hv
      rwa [addr_add, addr_add] at this
    · rw [hll, ← hb]
      refine Nat.le_trans ?_ hbd
      exact Nat.mul_le_mul_right _ (by simp)
theorem rdw_fields {H : Type} {enc : TypeId × Value → H} {w : World} {base : Nat} {spare : Nat → Bool} {held : Bool} {fuel : Nat} {cs : List Value} {x : DataW H × List MemPlace} {fs : Array Field} (ht : P.underlying t = some (.struct fs)) (h : DataW.trod enc P w base spare held fuel t cs = some x) (hW : WOk P t x.1) :
    cs.length = P.cellsOf t ∧ ∃ n, ∀ (i : Nat) (f : Field), fs[i]? = some f → ∃ y, DataW.trod enc P w base spare held n f.type ((cs.drop f.offset).take (P.cellsOf f.type)) = some y ∧ WOk P f.type y.1 := by
  obtain ⟨xs, n, _, rfl, hl, hxs, hf⟩ := DataW.trod_struct ht h
  refine ⟨hl, n, fun i f hi => ?_⟩
  have h1 := (Array.getElem?_eq_some_iff.1 hi).1
  have hix : i < xs.length := by omega
  refine ⟨xs[i], (hf i f hi).trans (List.getElem?_eq_getElem hix), fun m hm => hW m ?_⟩
  simp only [DataW.weights, ht]
  exact DataW.weights_mem_each (j := i) (t := f.type) (d := xs[i].1) (by simp [hi]) (by simp [hix]) m hm
end
end Bx
/- part RdF -/
namespace Go.Proofs.Ytghgnofilbnbaaa
open Go Bx
section
variable {H : Type} {enc : TypeId × Value → H} {w : World} {base : Nat} {spare : Nat → Bool} {held : Bool} {fuel : Nat} {cs : List Value} {x : DataW H × List MemPlace}
theorem rdF26 (h : DataW.trod enc Try.prog w base spare held fuel 26 cs = some x) (hW : WOk Try.prog 26 x.1) : ∃ n c0 c1 c2, cs = [c0, c1, c2] ∧ (∃ y, DataW.trod enc Try.prog w base spare held n 22 [c0] = some y ∧ WOk Try.prog 22 y.1) ∧ (∃ y, DataW.trod enc Try.prog w base spare held n 23 [c1] = some y ∧ WOk Try.prog 23 y.1) ∧ (∃ y, DataW.trod enc Try.prog w base spare held n 24 [c2] = some y ∧ WOk Try.prog 24 y.1) := by
  have z22 : Try.prog.cellsOf 22 = 1 := by kernel_rfl
  have z23 : Try.prog.cellsOf 23 = 1 := by kernel_rfl
  have z24 : Try.prog.cellsOf 24 = 1 := by kernel_rfl
  obtain ⟨hl, n, hf⟩ := rdw_fields Try.underlying26 h hW
  have hz : Try.prog.cellsOf 26 = 3 := by kernel_rfl
  rw [hz] at hl
  obtain ⟨c0, c1, c2, rfl⟩ := three_of hl
  have f0 : ∃ y, DataW.trod enc Try.prog w base spare held n 22 ((List.drop 0 [c0, c1, c2]).take (Try.prog.cellsOf 22)) = some y ∧ WOk Try.prog 22 y.1 := hf 0 _ rfl
  rw [z22] at f0
  have f1 : ∃ y, DataW.trod enc Try.prog w base spare held n 23 ((List.drop 1 [c0, c1, c2]).take (Try.prog.cellsOf 23)) = some y ∧ WOk Try.prog 23 y.1 := hf 1 _ rfl
  rw [z23] at f1
  have f2 : ∃ y, DataW.trod enc Try.prog w base spare held n 24 ((List.drop 2 [c0, c1, c2]).take (Try.prog.cellsOf 24)) = some y ∧ WOk Try.prog 24 y.1 := hf 2 _ rfl
  rw [z24] at f2
  exact ⟨n, c0, c1, c2, rfl, f0, f1, f2⟩
theorem rdF29 (h : DataW.trod enc Try.prog w base spare held fuel 29 cs = some x) (hW : WOk Try.prog 29 x.1) : ∃ n c0 c1, cs = [c0, c1] ∧ (∃ y, DataW.trod enc Try.prog w base spare held n 9 [c0] = some y ∧ WOk Try.prog 9 y.1) ∧ (∃ y, DataW.trod enc Try.prog w base spare held n 27 [c1] = some y ∧ WOk Try.prog 27 y.1) := by
  have z9 : Try.prog.cellsOf 9 = 1 := by kernel_rfl
  have z27 : Try.prog.cellsOf 27 = 1 := by kernel_rfl
  obtain ⟨hl, n, hf⟩ := rdw_fields Try.underlying29 h hW
  have hz : Try.prog.cellsOf 29 = 2 := by kernel_rfl
  rw [hz] at hl
  obtain ⟨c0, c1, rfl⟩ := two_of hl
  have f0 : ∃ y, DataW.trod enc Try.prog w base spare held n 9 ((List.drop 0 [c0, c1]).take (Try.prog.cellsOf 9)) = some y ∧ WOk Try.prog 9 y.1 := hf 0 _ rfl
  rw [z9] at f0
  have f1 : ∃ y, DataW.trod enc Try.prog w base spare held n 27 ((List.drop 1 [c0, c1]).take (Try.prog.cellsOf 27)) = some y ∧ WOk Try.prog 27 y.1 := hf 1 _ rfl
  rw [z27] at f1
  exact ⟨n, c0, c1, rfl, f0, f1⟩
theorem rdF39 (h : DataW.trod enc Try.prog w base spare held fuel 39 cs = some x) (hW : WOk Try.prog 39 x.1) : ∃ n c0 c1 c2 c3, cs = [c0, c1, c2, c3] ∧ (∃ y, DataW.trod enc Try.prog w base spare held n 29 [c0, c1] = some y ∧ WOk Try.prog 29 y.1) ∧ (∃ y, DataW.trod enc Try.prog w base spare held n 3 [c2] = some y ∧ WOk Try.prog 3 y.1) ∧ (∃ y, DataW.trod enc Try.prog w base spare held n 37 [c3] = some y ∧ WOk Try.prog 37 y.1) := by
  have z3 : Try.prog.cellsOf 3 = 1 := by kernel_rfl
  have z29 : Try.prog.cellsOf 29 = 2 := by kernel_rfl
  have z37 : Try.prog.cellsOf 37 = 1 := by kernel_rfl
  obtain ⟨hl, n, hf⟩ := rdw_fields Try.underlying39 h hW
  have hz : Try.prog.cellsOf 39 = 4 := by kernel_rfl
  rw [hz] at hl
  obtain ⟨c0, c1, c2, c3, rfl⟩ := four_of hl
  have f0 : ∃ y, DataW.trod enc Try.prog w base spare held n 29 ((List.drop 0 [c0, c1, c2, c3]).take (Try.prog.cellsOf 29)) = some y ∧ WOk Try.prog 29 y.1 := hf 0 _ rfl
  rw [z29] at f0
  have f1 : ∃ y, DataW.trod enc Try.prog w base spare held n 3 ((List.drop 2 [c0, c1, c2, c3]).take (Try.prog.cellsOf 3)) = some y ∧ WOk Try.prog 3 y.1 := hf 1 _ rfl
  rw [z3] at f1
  have f2 : ∃ y, DataW.trod enc Try.prog w base spare held n 37 ((List.drop 3 [c0, c1, c2, c3]).take (Try.prog.cellsOf 37)) = some y ∧ WOk Try.prog 37 y.1 := hf 2 _ rfl
  rw [z37] at f2
  exact ⟨n, c0, c1, c2, c3, rfl, f0, f1, f2⟩
theorem rdF42 (h : DataW.trod enc Try.prog w base spare held fuel 42 cs = some x) (hW : WOk Try.prog 42 x.1) : ∃ n c0 c1 c2, cs = [c0, c1, c2] ∧ (∃ y, DataW.trod enc Try.prog w base spare held n 9 [c0] = some y ∧ WOk Try.prog 9 y.1) ∧ (∃ y, DataW.trod enc Try.prog w base spare held n 3 [c1] = some y ∧ WOk Try.prog 3 y.1) ∧ (∃ y, DataW.trod enc Try.prog w base spare held n 40 [c2] = some y ∧ WOk Try.prog 40 y.1) := by
  have z3 : Try.prog.cellsOf 3 = 1 := by kernel_rfl
  have z9 : Try.prog.cellsOf 9 = 1 := by kernel_rfl
  have z40 : Try.prog.cellsOf 40 = 1 := by kernel_rfl
  obtain ⟨hl, n, hf⟩ := rdw_fields Try.underlying42 h hW
  have hz : Try.prog.cellsOf 42 = 3 := by kernel_rfl
  rw [hz] at hl
  obtain ⟨c0, c1, c2, rfl⟩ := three_of hl
  have f0 : ∃ y, DataW.trod enc Try.prog w base spare held n 9 ((List.drop 0 [c0, c1, c2]).take (Try.prog.cellsOf 9)) = some y ∧ WOk Try.prog 9 y.1 := hf 0 _ rfl
  rw [z9] at f0
  have f1 : ∃ y, DataW.trod enc Try.prog w base spare held n 3 ((List.drop 1 [c0, c1, c2]).take (Try.prog.cellsOf 3)) = some y ∧ WOk Try.prog 3 y.1 := hf 1 _ rfl
  rw [z3] at f1
  have f2 : ∃ y, DataW.trod enc Try.prog w base spare held n 40 ((List.drop 2 [c0, c1, c2]).take (Try.prog.cellsOf 40)) = some y ∧ WOk Try.prog 40 y.1 := hf 2 _ rfl
  rw [z40] at f2
  exact ⟨n, c0, c1, c2, rfl, f0, f1, f2⟩
theorem rdF44 (h : DataW.trod enc Try.prog w base spare held fuel 44 cs = some x) (hW : WOk Try.prog 44 x.1) : ∃ n c0 c1, cs = [c0, c1] ∧ (∃ y, DataW.trod enc Try.prog w base spare held n 3 [c0] = some y ∧ WOk Try.prog 3 y.1) ∧ (∃ y, DataW.trod enc Try.prog w base spare held n 3 [c1] = some y ∧ WOk Try.prog 3 y.1) := by
  have z3 : Try.prog.cellsOf 3 = 1 := by kernel_rfl
  obtain ⟨hl, n, hf⟩ := rdw_fields Try.underlying44 h hW
  have hz : Try.prog.cellsOf 44 = 2 := by kernel_rfl
  rw [hz] at hl
  obtain ⟨c0, c1, rfl⟩ := two_of hl
  have f0 : ∃ y, DataW.trod enc Try.prog w base spare held n 3 ((List.drop 0 [c0, c1]).take (Try.prog.cellsOf 3)) = some y ∧ WOk Try.prog 3 y.1 := hf 0 _ rfl
  rw [z3] at f0
  have f1 : ∃ y, DataW.trod enc Try.prog w base spare held n 3 ((List.drop 1 [c0, c1]).take (Try.prog.cellsOf 3)) = some y ∧ WOk Try.prog 3 y.1 := hf 1 _ rfl
  rw [z3] at f1
  exact ⟨n, c0, c1, rfl, f0, f1⟩
theorem rdF53 (h : DataW.trod enc Try.prog w base spare held fuel 53 cs = some x) (hW : WOk Try.prog 53 x.1) : ∃ n c0 c1 c2 c3 c4 c5, cs = [c0, c1, c2, c3, c4, c5] ∧ (∃ y, DataW.trod enc Try.prog w base spare held n 3 [c0] = some y ∧ WOk Try.prog 3 y.1) ∧ (∃ y, DataW.trod enc Try.prog w base spare held n 3 [c1] = some y ∧ WOk Try.prog 3 y.1) ∧ (∃ y, DataW.trod enc Try.prog w base spare held n 3 [c2] = some y ∧ WOk Try.prog 3 y.1) ∧ (∃ y, DataW.trod enc Try.prog w base spare held n 3 [c3] = some y ∧ WOk Try.prog 3 y.1) ∧ (∃ y, DataW.trod enc Try.prog w base spare held n 3 [c4] = some y ∧ WOk Try.prog 3 y.1) ∧ (∃ y, DataW.trod enc Try.prog w base spare held n 3 [c5] = some y ∧ WOk Try.prog 3 y.1) := by
  have z3 : Try.prog.cellsOf 3 = 1 := by kernel_rfl
  obtain ⟨hl, n, hf⟩ := rdw_fields Try.underlying53 h hW
  have hz : Try.prog.cellsOf 53 = 6 := by kernel_rfl
  rw [hz] at hl
  obtain ⟨c0, c1, c2, c3, c4, c5, rfl⟩ := six_of hl
  have f0 : ∃ y, DataW.trod enc Try.prog w base spare held n 3 ((List.drop 0 [c0, c1, c2, c3, c4, c5]).take (Try.prog.cellsOf 3)) = some y ∧ WOk Try.prog 3 y.1 := hf 0 _ rfl
  rw [z3] at f0
  have f1 : ∃ y, DataW.trod enc Try.prog w base spare held n 3 ((List.drop 1 [c0, c1, c2, c3, c4, c5]).take (Try.prog.cellsOf 3)) = some y ∧ WOk Try.prog 3 y.1 := hf 1 _ rfl
  rw [z3] at f1
  have f2 : ∃ y, DataW.trod enc Try.prog w base spare held n 3 ((List.drop 2 [c0, c1, c2, c3, c4, c5]).take (Try.prog.cellsOf 3)) = some y ∧ WOk Try.prog 3 y.1 := hf 2 _ rfl
  rw [z3] at f2
  have f3 : ∃ y, DataW.trod enc Try.prog w base spare held n 3 ((List.drop 3 [c0, c1, c2, c3, c4, c5]).take (Try.prog.cellsOf 3)) = some y ∧ WOk Try.prog 3 y.1 := hf 3 _ rfl
  rw [z3] at f3
  have f4 : ∃ y, DataW.trod enc Try.prog w base spare held n 3 ((List.drop 4 [c0, c1, c2, c3, c4, c5]).take (Try.prog.cellsOf 3)) = some y ∧ WOk Try.prog 3 y.1 := hf 4 _ rfl
  rw [z3] at f4
  have f5 : ∃ y, DataW.trod enc Try.prog w base spare held n 3 ((List.drop 5 [c0, c1, c2, c3, c4, c5]).take (Try.prog.cellsOf 3)) = some y ∧ WOk Try.prog 3 y.1 := hf 5 _ rfl
  rw [z3] at f5
  exact ⟨n, c0, c1, c2, c3, c4, c5, rfl, f0, f1, f2, f3, f4, f5⟩
theorem rdF68 (h : DataW.trod enc Try.prog w base spare held fuel 68 cs = some x) (hW : WOk Try.prog 68 x.1) : ∃ n c0 c1 c2 c3, cs = [c0, c1, c2, c3] ∧ (∃ y, DataW.trod enc Try.prog w base spare held n 5 [c0] = some y ∧ WOk Try.prog 5 y.1) ∧ (∃ y, DataW.trod enc Try.prog w base spare held n 44 [c1, c2] = some y ∧ WOk Try.prog 44 y.1) ∧ (∃ y, DataW.trod enc Try.prog w base spare held n 5 [c3] = some y ∧ WOk Try.prog 5 y.1) := by
  have z5 : Try.prog.cellsOf 5 = 1 := by kernel_rfl
  have z44 : Try.prog.cellsOf 44 = 2 := by kernel_rfl
  obtain ⟨hl, n, hf⟩ := rdw_fields Try.underlying68 h hW
  have hz : Try.prog.cellsOf 68 = 4 := by kernel_rfl
  rw [hz] at hl
  obtain ⟨c0, c1, c2, c3, rfl⟩ := four_of hl
  have f0 : ∃ y, DataW.trod enc Try.prog w base spare held n 5 ((List.drop 0 [c0, c1, c2, c3]).take (Try.prog.cellsOf 5)) = some y ∧ WOk Try.prog 5 y.1 := hf 0 _ rfl
  rw [z5] at f0
  have f1 : ∃ y, DataW.trod enc Try.prog w base spare held n 44 ((List.drop 1 [c0, c1, c2, c3]).take (Try.prog.cellsOf 44)) = some y ∧ WOk Try.prog 44 y.1 := hf 1 _ rfl
  rw [z44] at f1
  have f2 : ∃ y, DataW.trod enc Try.prog w base spare held n 5 ((List.drop 3 [c0, c1, c2, c3]).take (Try.prog.cellsOf 5)) = some y ∧ WOk Try.prog 5 y.1 := hf 2 _ rfl
  rw [z5] at f2
  exact ⟨n, c0, c1, c2, c3, rfl, f0, f1, f2⟩
theorem rdF70 (h : DataW.trod enc Try.prog w base spare held fuel 70 cs = some x) (hW : WOk Try.prog 70 x.1) : ∃ n c0 c1 c2 c3 c4 c5, cs = [c0, c1, c2, c3, c4, c5] ∧ (∃ y, DataW.trod enc Try.prog w base spare held n 68 [c0, c1, c2, c3] = some y ∧ WOk Try.prog 68 y.1) ∧ (∃ y, DataW.trod enc Try.prog w base spare held n 3 [c4] = some y ∧ WOk Try.prog 3 y.1) ∧ (∃ y, DataW.trod enc Try.prog w base spare held n 3 [c5] = some y ∧ WOk Try.prog 3 y.1) := by
  have z3 : Try.prog.cellsOf 3 = 1 := by kernel_rfl
  have z68 : Try.prog.cellsOf 68 = 4 := by kernel_rfl
  obtain ⟨hl, n, hf⟩ := rdw_fields Try.underlying70 h hW
  have hz : Try.prog.cellsOf 70 = 6 := by kernel_rfl
  rw [hz] at hl
  obtain ⟨c0, c1, c2, c3, c4, c5, rfl⟩ := six_of hl
  have f0 : ∃ y, DataW.trod enc Try.prog w base spare held n 68 ((List.drop 0 [c0, c1, c2, c3, c4, c5]).take (Try.prog.cellsOf 68)) = some y ∧ WOk Try.prog 68 y.1 := hf 0 _ rfl
  rw [z68] at f0
  have f1 : ∃ y, DataW.trod enc Try.prog w base spare held n 3 ((List.drop 4 [c0, c1, c2, c3, c4, c5]).take (Try.prog.cellsOf 3)) = some y ∧ WOk Try.prog 3 y.1 := hf 1 _ rfl
  rw [z3] at f1
  have f2 : ∃ y, DataW.trod enc Try.prog w base spare held n 3 ((List.drop 5 [c0, c1, c2, c3, c4, c5]).take (Try.prog.cellsOf 3)) = some y ∧ WOk Try.prog 3 y.1 := hf 2 _ rfl
  rw [z3] at f2
  exact ⟨n, c0, c1, c2, c3, c4, c5, rfl, f0, f1, f2⟩
theorem rdF79 (h : DataW.trod enc Try.prog w base spare held fuel 79 cs = some x) (hW : WOk Try.prog 79 x.1) : ∃ n c0 c1 c2 c3 c4 c5, cs = [c0, c1, c2, c3, c4, c5] ∧ (∃ y, DataW.trod enc Try.prog w base spare held n 9 [c0] = some y ∧ WOk Try.prog 9 y.1) ∧ (∃ y, DataW.trod enc Try.prog w base spare held n 3 [c1] = some y ∧ WOk Try.prog 3 y.1) ∧ (∃ y, DataW.trod enc Try.prog w base spare held n 3 [c2] = some y ∧ WOk Try.prog 3 y.1) ∧ (∃ y, DataW.trod enc Try.prog w base spare held n 3 [c3] = some y ∧ WOk Try.prog 3 y.1) ∧ (∃ y, DataW.trod enc Try.prog w base spare held n 30 [c4] = some y ∧ WOk Try.prog 30 y.1) ∧ (∃ y, DataW.trod enc Try.prog w base spare held n 4 [c5] = some y ∧ WOk Try.prog 4 y.1) := by
  have z3 : Try.prog.cellsOf 3 = 1 := by kernel_rfl
  have z4 : Try.prog.cellsOf 4 = 1 := by kernel_rfl
  have z9 : Try.prog.cellsOf 9 = 1 := by kernel_rfl
  have z30 : Try.prog.cellsOf 30 = 1 := by kernel_rfl
  obtain ⟨hl, n, hf⟩ := rdw_fields Try.underlying79 h hW
  have hz : Try.prog.cellsOf 79 = 6 := by kernel_rfl
  rw [hz] at hl
  obtain ⟨c0, c1, c2, c3, c4, c5, rfl⟩ := six_of hl
  have f0 : ∃ y, DataW.trod enc Try.prog w base spare held n 9 ((List.drop 0 [c0, c1, c2, c3, c4, c5]).take (Try.prog.cellsOf 9)) = some y ∧ WOk Try.prog 9 y.1 := hf 0 _ rfl
  rw [z9] at f0
  have f1 : ∃ y, DataW.trod enc Try.prog w base spare held n 3 ((List.drop 1 [c0, c1, c2, c3, c4, c5]).take (Try.prog.cellsOf 3)) = some y ∧ WOk Try.prog 3 y.1 := hf 1 _ rfl
  rw [z3] at f1
  have f2 : ∃ y, DataW.trod enc Try.prog w base spare held n 3 ((List.drop 2 [c0, c1, c2, c3, c4, c5]).take (Try.prog.cellsOf 3)) = some y ∧ WOk Try.prog 3 y.1 := hf 2 _ rfl
  rw [z3] at f2
  have f3 : ∃ y, DataW.trod enc Try.prog w base spare held n 3 ((List.drop 3 [c0, c1, c2, c3, c4, c5]).take (Try.prog.cellsOf 3)) = some y ∧ WOk Try.prog 3 y.1 := hf 3 _ rfl
  rw [z3] at f3
  have f4 : ∃ y, DataW.trod enc Try.prog w base spare held n 30 ((List.drop 4 [c0, c1, c2, c3, c4, c5]).take (Try.prog.cellsOf 30)) = some y ∧ WOk Try.prog 30 y.1 := hf 4 _ rfl
  rw [z30] at f4
  have f5 : ∃ y, DataW.trod enc Try.prog w base spare held n 4 ((List.drop 5 [c0, c1, c2, c3, c4, c5]).take (Try.prog.cellsOf 4)) = some y ∧ WOk Try.prog 4 y.1 := hf 5 _ rfl
  rw [z4] at f5
  exact ⟨n, c0, c1, c2, c3, c4, c5, rfl, f0, f1, f2, f3, f4, f5⟩
theorem rdF80 (h : DataW.trod enc Try.prog w base spare held fuel 80 cs = some x) : ∃ n c0 c1, cs = [c0, c1] ∧ (∃ y, DataW.trod enc Try.prog w base spare held n 3 [c0] = some y) ∧ (∃ y, DataW.trod enc Try.prog w base spare held n 3 [c1] = some y) := by
  have z3 : Try.prog.cellsOf 3 = 1 := by kernel_rfl
  obtain ⟨hl, n, hf⟩ := rd_elems Try.underlying80 z3 h
  have hz : Try.prog.cellsOf 80 = 2 := by kernel_rfl
  rw [hz] at hl
  obtain ⟨c0, c1, rfl⟩ := two_of hl
  have f0 : ∃ y, DataW.trod enc Try.prog w base spare held n 3 [c0] = some y := hf 0 (by omega)
  have f1 : ∃ y, DataW.trod enc Try.prog w base spare held n 3 [c1] = some y := hf 1 (by omega)
  exact ⟨n, c0, c1, rfl, f0, f1⟩
theorem rdF89 (h : DataW.trod enc Try.prog w base spare held fuel 89 cs = some x) (hW : WOk Try.prog 89 x.1) : ∃ n c0 c1 c2 c3 c4, cs = [c0, c1, c2, c3, c4] ∧ (∃ y, DataW.trod enc Try.prog w base spare held n 3 [c0] = some y ∧ WOk Try.prog 3 y.1) ∧ (∃ y, DataW.trod enc Try.prog w base spare held n 3 [c1] = some y ∧ WOk Try.prog 3 y.1) ∧ (∃ y, DataW.trod enc Try.prog w base spare held n 3 [c2] = some y ∧ WOk Try.prog 3 y.1) ∧ (∃ y, DataW.trod enc Try.prog w base spare held n 3 [c3] = some y ∧ WOk Try.prog 3 y.1) ∧ (∃ y, DataW.trod enc Try.prog w base spare held n 3 [c4] = some y ∧ WOk Try.prog 3 y.1) := by
  have z3 : Try.prog.cellsOf 3 = 1 := by kernel_rfl
  obtain ⟨hl, n, hf⟩ := rdw_fields Try.underlying89 h hW
  have hz : Try.prog.cellsOf 89 = 5 := by kernel_rfl
  rw [hz] at hl
  obtain ⟨c0, c1, c2, c3, c4, rfl⟩ := five_of hl
  have f0 : ∃ y, DataW.trod enc Try.prog w base spare held n 3 ((List.drop 0 [c0, c1, c2, c3, c4]).take (Try.prog.cellsOf 3)) = some y ∧ WOk Try.prog 3 y.1 := hf 0 _ rfl
  rw [z3] at f0
  have f1 : ∃ y, DataW.trod enc Try.prog w base spare held n 3 ((List.drop 1 [c0, c1, c2, c3, c4]).take (Try.prog.cellsOf 3)) = some y ∧ WOk Try.prog 3 y.1 := hf 1 _ rfl
  rw [z3] at f1
  have f2 : ∃ y, DataW.trod enc Try.prog w base spare held n 3 ((List.drop 2 [c0, c1, c2, c3, c4]).take (Try.prog.cellsOf 3)) = some y ∧ WOk Try.prog 3 y.1 := hf 2 _ rfl
  rw [z3] at f2
  have f3 : ∃ y, DataW.trod enc Try.prog w base spare held n 3 ((List.drop 3 [c0, c1, c2, c3, c4]).take (Try.prog.cellsOf 3)) = some y ∧ WOk Try.prog 3 y.1 := hf 3 _ rfl
  rw [z3] at f3
  have f4 : ∃ y, DataW.trod enc Try.prog w base spare held n 3 ((List.drop 4 [c0, c1, c2, c3, c4]).take (Try.prog.cellsOf 3)) = some y ∧ WOk Try.prog 3 y.1 := hf 4 _ rfl
  rw [z3] at f4
  exact ⟨n, c0, c1, c2, c3, c4, rfl, f0, f1, f2, f3, f4⟩
end
end Go.Proofs.Ytghgnofilbnbaaa
/- part Rd1 -/
namespace Go.Proofs.Ytghgnofilbnbaaa
open Go Bx
theorem rd_Spn : RdW Try.prog 44 RSpn := by
  intro H enc w base spare held fuel cs x h hW
  obtain ⟨n, c0, c1, rfl, ⟨y0, f0, k0⟩, ⟨y1, f1, k1⟩⟩ := rdF44 h hW
  obtain ⟨a0, g0⟩ := (Rd.w (rd_int Try.underlying3)) _ _ _ _ _ _ _ _ _ f0 k0
  obtain ⟨a1, g1⟩ := (Rd.w (rd_int Try.underlying3)) _ _ _ _ _ _ _ _ _ f1 k1
  obtain ⟨e0, i0⟩ := g0; obtain ⟨e1, i1⟩ := g1; cases e0; cases e1; exact ⟨⟨a0, a1⟩, rfl, i0, i1⟩
theorem rd_Spns : RdW Try.prog 40 (fun w cs (l : List Spn) => ∃ v, cs = [v] ∧ Sl w 2 RSpn v l ∧ l.length * 16 ≤ 140737488351232) := rdw_slice rd_Spn (by kernel_rfl) (by decide) Try.underlying40 (by kernel_rfl)
theorem rd_Ints : RdW Try.prog 30 (fun w cs (l : List Int) => ∃ v, cs = [v] ∧ Sl w 1 RInt v l ∧ l.length * 8 ≤ 140737488351232) := rdw_slice (Rd.w (rd_int Try.underlying3)) (by kernel_rfl) (by decide) Try.underlying30 (by kernel_rfl)
theorem rd_Nams : RdW Try.prog 23 (fun w cs (l : List ByteArray) => ∃ v, cs = [v] ∧ Sl w 1 RNam v l ∧ l.length * 16 ≤ 140737488351232) := rdw_slice (Rd.w (rd_str Try.underlying9)) (by kernel_rfl) (by decide) Try.underlying23 (by kernel_rfl)
theorem rd_Opr : RdW Try.prog 42 ROprS := by
  intro H enc w base spare held fuel cs x h hW
  obtain ⟨n, c0, c1, c2, rfl, ⟨y0, f0, k0⟩, ⟨y1, f1, k1⟩, ⟨y2, f2, k2⟩⟩ := rdF42 h hW
  obtain ⟨a0, g0⟩ := (Rd.w (rd_str Try.underlying9)) _ _ _ _ _ _ _ _ _ f0 k0
  obtain ⟨a1, g1⟩ := (Rd.w (rd_int Try.underlying3)) _ _ _ _ _ _ _ _ _ f1 k1
  obtain ⟨a2, g2⟩ := rd_Spns _ _ _ _ _ _ _ _ _ f2 k2
  obtain ⟨e0, i0⟩ := g0; obtain ⟨e1, i1⟩ := g1; obtain ⟨v2, e2, i2, r2⟩ := g2; cases e0; cases e1; cases e2; exact ⟨⟨a0, a1, a2⟩, ⟨_, rfl, i0, i1, i2, Nat.le_trans r2 (by decide)⟩, r2⟩
theorem rd_Oprs : RdW Try.prog 22 (fun w cs (l : List Opr) => ∃ v, cs = [v] ∧ Sl w 3 ROprS v l ∧ l.length * 48 ≤ 140737488351232) := rdw_slice rd_Opr (by kernel_rfl) (by decide) Try.underlying22 (by kernel_rfl)
theorem rd_Knd : RdW Try.prog 79 RKnd := by
  intro H enc w base spare held fuel cs x h hW
  obtain ⟨n, c0, c1, c2, c3, c4, c5, rfl, ⟨y0, f0, k0⟩, ⟨y1, f1, k1⟩, ⟨y2, f2, k2⟩, ⟨y3, f3, k3⟩, ⟨y4, f4, k4⟩, ⟨y5, f5, k5⟩⟩ := rdF79 h hW
  obtain ⟨a0, g0⟩ := (Rd.w (rd_str Try.underlying9)) _ _ _ _ _ _ _ _ _ f0 k0
  obtain ⟨a1, g1⟩ := (Rd.w (rd_int Try.underlying3)) _ _ _ _ _ _ _ _ _ f1 k1
  obtain ⟨a2, g2⟩ := (Rd.w (rd_int Try.underlying3)) _ _ _ _ _ _ _ _ _ f2 k2
  obtain ⟨a3, g3⟩ := (Rd.w (rd_int Try.underlying3)) _ _ _ _ _ _ _ _ _ f3 k3
  obtain ⟨a4, g4⟩ := rd_Ints _ _ _ _ _ _ _ _ _ f4 k4
  obtain ⟨a5, g5⟩ := (Rd.w (rd_bool Try.underlying4)) _ _ _ _ _ _ _ _ _ f5 k5
  obtain ⟨e0, i0⟩ := g0; obtain ⟨e1, i1⟩ := g1; obtain ⟨e2, i2⟩ := g2; obtain ⟨e3, i3⟩ := g3; obtain ⟨v4, e4, i4, r4⟩ := g4; have e5 : [c5] = [Value.bool a5] := g5; cases e0; cases e1; cases e2; cases e3; cases e4; cases e5; exact ⟨⟨a0, a1, a2, a3, a4, a5⟩, _, rfl, i0, i1, i2, i3, i4, r4⟩
theorem rd_Knds : RdW Try.prog 24 (fun w cs (l : List Knd) => ∃ v, cs = [v] ∧ Sl w 6 RKnd v l ∧ l.length * 72 ≤ 140737488351232) := rdw_slice rd_Knd (by kernel_rfl) (by decide) Try.underlying24 (by kernel_rfl)
theorem rd_CrewS : RdW Try.prog 26 RCrewS := by
  intro H enc w base spare held fuel cs x h hW
  obtain ⟨n, c0, c1, c2, rfl, ⟨y0, f0, k0⟩, ⟨y1, f1, k1⟩, ⟨y2, f2, k2⟩⟩ := rdF26 h hW
  obtain ⟨a0, g0⟩ := rd_Oprs _ _ _ _ _ _ _ _ _ f0 k0
  obtain ⟨a1, g1⟩ := rd_Nams _ _ _ _ _ _ _ _ _ f1 k1
  obtain ⟨a2, g2⟩ := rd_Knds _ _ _ _ _ _ _ _ _ f2 k2
  obtain ⟨v0, e0, i0, r0⟩ := g0; obtain ⟨v1, e1, i1, r1⟩ := g1; obtain ⟨v2, e2, i2, r2⟩ := g2; cases e0; cases e1; cases e2; exact ⟨⟨a0, a1, a2⟩, ⟨_, _, _, rfl, i0.mono (fun _ _ h => h.1), i1, i2, r0⟩, sl_all i0 (fun _ _ h => h.2)⟩
theorem rd_Crew : RdW Try.prog 26 RCrew := fun H enc w base spare held fuel cs x h hW => by obtain ⟨a, h⟩ := rd_CrewS H enc w base spare held fuel cs x h hW; exact ⟨a, h.1⟩
theorem rd_Act : RdW Try.prog 53 RAct := by
  intro H enc w base spare held fuel cs x h hW
  obtain ⟨n, c0, c1, c2, c3, c4, c5, rfl, ⟨y0, f0, k0⟩, ⟨y1, f1, k1⟩, ⟨y2, f2, k2⟩, ⟨y3, f3, k3⟩, ⟨y4, f4, k4⟩, ⟨y5, f5, k5⟩⟩ := rdF53 h hW
  obtain ⟨a0, g0⟩ := (Rd.w (rd_int Try.underlying3)) _ _ _ _ _ _ _ _ _ f0 k0
  obtain ⟨a1, g1⟩ := (Rd.w (rd_int Try.underlying3)) _ _ _ _ _ _ _ _ _ f1 k1
  obtain ⟨a2, g2⟩ := (Rd.w (rd_int Try.underlying3)) _ _ _ _ _ _ _ _ _ f2 k2
  obtain ⟨a3, g3⟩ := (Rd.w (rd_int Try.underlying3)) _ _ _ _ _ _ _ _ _ f3 k3
  obtain ⟨a4, g4⟩ := (Rd.w (rd_int Try.underlying3)) _ _ _ _ _ _ _ _ _ f4 k4
  obtain ⟨a5, g5⟩ := (Rd.w (rd_int Try.underlying3)) _ _ _ _ _ _ _ _ _ f5 k5
  obtain ⟨e0, i0⟩ := g0; obtain ⟨e1, i1⟩ := g1; obtain ⟨e2, i2⟩ := g2; obtain ⟨e3, i3⟩ := g3; obtain ⟨e4, i4⟩ := g4; obtain ⟨e5, i5⟩ := g5; cases e0; cases e1; cases e2; cases e3; cases e4; cases e5; exact ⟨⟨a0, a1, a2, a3, a4, a5⟩, rfl, i0, i1, i2, i3, i4, i5⟩
theorem rd_Acts : RdW Try.prog 37 (fun w cs (l : List Acn) => ∃ v, cs = [v] ∧ Sl w 6 RAct v l ∧ l.length * 48 ≤ 140737488351232) := rdw_slice rd_Act (by kernel_rfl) (by decide) Try.underlying37 (by kernel_rfl)
theorem rd_Stp : RdW Try.prog 89 RStp := by
  intro H enc w base spare held fuel cs x h hW
  obtain ⟨n, c0, c1, c2, c3, c4, rfl, ⟨y0, f0, k0⟩, ⟨y1, f1, k1⟩, ⟨y2, f2, k2⟩, ⟨y3, f3, k3⟩, ⟨y4, f4, k4⟩⟩ := rdF89 h hW
  obtain ⟨a0, g0⟩ := (Rd.w (rd_int Try.underlying3)) _ _ _ _ _ _ _ _ _ f0 k0
  obtain ⟨a1, g1⟩ := (Rd.w (rd_int Try.underlying3)) _ _ _ _ _ _ _ _ _ f1 k1
  obtain ⟨a2, g2⟩ := (Rd.w (rd_int Try.underlying3)) _ _ _ _ _ _ _ _ _ f2 k2
  obtain ⟨a3, g3⟩ := (Rd.w (rd_int Try.underlying3)) _ _ _ _ _ _ _ _ _ f3 k3
  obtain ⟨a4, g4⟩ := (Rd.w (rd_int Try.underlying3)) _ _ _ _ _ _ _ _ _ f4 k4
  obtain ⟨e0, i0⟩ := g0; obtain ⟨e1, i1⟩ := g1; obtain ⟨e2, i2⟩ := g2; obtain ⟨e3, i3⟩ := g3; obtain ⟨e4, i4⟩ := g4; cases e0; cases e1; cases e2; cases e3; cases e4; exact ⟨⟨a0, a1, a2, a3, a4⟩, rfl, i0, i1, i2, i3, i4⟩
theorem rd_Stps : RdW Try.prog 27 (fun w cs (l : List Stp) => ∃ v, cs = [v] ∧ Sl w 5 RStp v l ∧ l.length * 40 ≤ 140737488351232) := rdw_slice rd_Stp (by kernel_rfl) (by decide) Try.underlying27 (by kernel_rfl)
theorem rd_Scr : RdW Try.prog 29 RScr := by
  intro H enc w base spare held fuel cs x h hW
  obtain ⟨n, c0, c1, rfl, ⟨y0, f0, k0⟩, ⟨y1, f1, k1⟩⟩ := rdF29 h hW
  obtain ⟨a0, g0⟩ := (Rd.w (rd_str Try.underlying9)) _ _ _ _ _ _ _ _ _ f0 k0
  obtain ⟨a1, g1⟩ := rd_Stps _ _ _ _ _ _ _ _ _ f1 k1
  obtain ⟨e0, i0⟩ := g0; obtain ⟨v1, e1, i1, r1⟩ := g1; cases e0; cases e1; exact ⟨⟨a0, a1⟩, _, rfl, i0, i1⟩
theorem rd_Drl : RdW Try.prog 39 RDrl := by
  intro H enc w base spare held fuel cs x h hW
  obtain ⟨n, c0, c1, c2, c3, rfl, ⟨y0, f0, k0⟩, ⟨y1, f1, k1⟩, ⟨y2, f2, k2⟩⟩ := rdF39 h hW
  obtain ⟨a0, g0⟩ := rd_Scr _ _ _ _ _ _ _ _ _ f0 k0
  obtain ⟨a1, g1⟩ := (Rd.w (rd_int Try.underlying3)) _ _ _ _ _ _ _ _ _ f1 k1
  obtain ⟨a2, g2⟩ := rd_Acts _ _ _ _ _ _ _ _ _ f2 k2
  obtain ⟨v0, e0, i0, j0⟩ := g0; obtain ⟨e1, i1⟩ := g1; obtain ⟨v2, e2, i2, r2⟩ := g2; cases e0; cases e1; cases e2; exact ⟨⟨a0, a1, a2⟩, _, _, rfl, i0, j0, i1, i2⟩
theorem rd_Mor : RdW Try.prog 68 RMor := by
  intro H enc w base spare held fuel cs x h hW
  obtain ⟨n, c0, c1, c2, c3, rfl, ⟨y0, f0, k0⟩, ⟨y1, f1, k1⟩, ⟨y2, f2, k2⟩⟩ := rdF68 h hW
  obtain ⟨a0, g0⟩ := (Rd.w (rd_u8 Try.underlying5)) _ _ _ _ _ _ _ _ _ f0 k0
  obtain ⟨a1, g1⟩ := rd_Spn _ _ _ _ _ _ _ _ _ f1 k1
  obtain ⟨a2, g2⟩ := (Rd.w (rd_u8 Try.underlying5)) _ _ _ _ _ _ _ _ _ f2 k2
  obtain ⟨e0, i0⟩ := g0; obtain ⟨e1, i1⟩ := g1; obtain ⟨e2, i2⟩ := g2; cases e0; cases e1; cases e2; exact ⟨⟨a0, a1, a2⟩, rfl, i0, i1, i2⟩
theorem rd_Xtr : RdW Try.prog 70 RXtr := by
  intro H enc w base spare held fuel cs x h hW
  obtain ⟨n, c0, c1, c2, c3, c4, c5, rfl, ⟨y0, f0, k0⟩, ⟨y1, f1, k1⟩, ⟨y2, f2, k2⟩⟩ := rdF70 h hW
  obtain ⟨a0, g0⟩ := rd_Mor _ _ _ _ _ _ _ _ _ f0 k0
  obtain ⟨a1, g1⟩ := (Rd.w (rd_int Try.underlying3)) _ _ _ _ _ _ _ _ _ f1 k1
  obtain ⟨a2, g2⟩ := (Rd.w (rd_int Try.underlying3)) _ _ _ _ _ _ _ _ _ f2 k2
  obtain ⟨e0, i0, j0, l0⟩ := g0; obtain ⟨e1, i1⟩ := g1; obtain ⟨e2, i2⟩ := g2; cases e0; cases e1; cases e2; exact ⟨⟨a0.who, a0.sp, a0.gr, a1, a2⟩, rfl, i0, j0, l0, i1, i2⟩
theorem rd_TwoI : RdW Try.prog 80 RTwoI := by
  intro H enc w base spare held fuel cs x h hW
  obtain ⟨n, c0, c1, rfl, ⟨y0, f0⟩, ⟨y1, f1⟩⟩ := rdF80 h
  obtain ⟨a0, e0, i0⟩ := rd_int Try.underlying3 _ _ _ _ _ _ _ _ _ f0
  obtain ⟨a1, e1, i1⟩ := rd_int Try.underlying3 _ _ _ _ _ _ _ _ _ f1
  cases e0; cases e1; exact ⟨(a0, a1), rfl, i0, i1⟩
end Go.Proofs.Ytghgnofilbnbaaa
