/- Merged texts, part 4. -/
import Derived.Test.YtbbpiebhnbhbiaaGreatQ3
set_option linter.all false
set_option maxHeartbeats 8000000
namespace Go.Proofs.YtbbpiebhnbhbiaaGreat
open Go Bx
theorem yAdd64 {P : Program} {ρ : Operand → Value} {w : World} {ty : TypeId} {x y : Operand} {a b : Nat} {t t' : TypeId} (hx : ρ x = .int .u64 (a : Int)) (hy : ρ y = .int .u64 (b : Int)) (h : a + b < 18446744073709551616) : Y P ρ (.binOp .add t x y t') ty w (.int .u64 ((a + b : Nat) : Int)) w :=
 Y.to (yU (r := ((a + b : Nat) : Int)) hx hy (.inl ⟨rfl, by omega⟩) ⟨by omega, by omega⟩) rfl
theorem yAndI {P : Program} {ρ : Operand → Value} {w : World} {ty : TypeId} {x y : Operand} {a b : Nat} {t t' : TypeId} (hx : ρ x = .int .i64 (a : Int)) (hy : ρ y = .int .i64 (b : Int)) (ha : a < 9223372036854775808) (hb : b < 9223372036854775808) : Y P ρ (.binOp .and t x y t') ty w (.int .i64 ((a &&& b : Nat) : Int)) w := by
 refine yBin hx hy rfl fun w => ?_
 have h : ((BitVec.ofInt 64 (a : Int) &&& BitVec.ofInt 64 (b : Int)).toNat : Int) = ((a &&& b : Nat) : Int) := by rw [BitVec.toNat_and, bv_nat (by omega), bv_nat (by omega)]
 show Result.ok (Value.int .i64 (IntKind.i64.wrap ((BitVec.ofInt 64 (a : Int) &&& BitVec.ofInt 64 (b : Int)).toNat : Int))) w = _
 rw [h, wrap_in ⟨by omega, by have := @and_le a b; omega⟩]
/-- math/bits.OnesCount64 -/
theorem c_ones {x : Nat} {w0 : World} (hx : x < 18446744073709551616) : CV Tryz.prog 81 #[.int .u64 ((x : Nat) : Int)] w0 (.int .i64 ((ocF x : Nat) : Int)) := by
 obtain ⟨q1, q2, q3, q4, q5, q6⟩ := oc_bd x
 refine enter Tryz.func81 rfl Tryz.ntmps81 rfl ?_
 have hS := St.start w0
 refine seq ?_
 refine region ?_
 refine sv (yAsg rfl) ?_
 refine nil ?_
 show Code.wp _ _ _ _ _
 refine seq ?_
 refine region ?_
 refine sv (yMove rfl) ?_
 refine sv (yShr64 rfl (i := 1) rfl (by decide)) ?_
 refine sv (yAnd64 rfl (b := 6148914691236517205) rfl (Nat.lt_of_le_of_lt (shr_le _ _) (by omega)) (by decide)) ?_
 refine sv (yMove rfl) ?_
 refine sv (yAnd64 rfl (b := 6148914691236517205) rfl (Nat.lt_of_le_of_lt (Nat.le_refl _) (by omega)) (by decide)) ?_
 refine sv (yAdd64 rfl rfl (show oc1 x < _ by omega)) ?_
 refine sv (Y.to (yAsg rfl) (show Value.int .u64 _ = .int .u64 ((oc1 x : Nat) : Int) from rfl)) ?_
 refine nil ?_
 show Code.wp _ _ _ _ _
 refine seq ?_
 refine region ?_
 refine sv (yMove rfl) ?_
 refine sv (yShr64 rfl (i := 2) rfl (by decide)) ?_
 refine sv (yAnd64 rfl (b := 3689348814741910323) rfl (Nat.lt_of_le_of_lt (shr_le _ _) (by omega)) (by decide)) ?_
 refine sv (yMove rfl) ?_
 refine sv (yAnd64 rfl (b := 3689348814741910323) rfl (Nat.lt_of_le_of_lt (Nat.le_refl _) (by omega)) (by decide)) ?_
 refine sv (yAdd64 rfl rfl (show oc2 (oc1 x) < _ by omega)) ?_
 refine sv (Y.to (yAsg rfl) (show Value.int .u64 _ = .int .u64 ((oc2 (oc1 x) : Nat) : Int) from rfl)) ?_
 refine nil ?_
 show Code.wp _ _ _ _ _
 refine seq ?_
 refine region ?_
 refine sv (yMove rfl) ?_
 refine sv (yShr64 rfl (i := 4) rfl (by decide)) ?_
 refine sv (yMove rfl) ?_
 refine sv (yAdd64 rfl rfl (by have := shr_le (oc2 (oc1 x)) 4; have h9 : (oc2 (oc1 x)) / 16 * 16 ≤ oc2 (oc1 x) := Nat.div_mul_le_self _ _; have h8 : (oc2 (oc1 x)) >>> 4 = (oc2 (oc1 x)) / 16 := Nat.shiftRight_eq_div_pow _ 4; omega)) ?_
 refine sv (yAnd64 rfl (b := 1085102592571150095) rfl (by have := shr_le (oc2 (oc1 x)) 4; omega) (by decide)) ?_
 refine sv (Y.to (yAsg rfl) (show Value.int .u64 _ = .int .u64 ((oc3 (oc2 (oc1 x)) : Nat) : Int) from rfl)) ?_
 refine nil ?_
 show Code.wp _ _ _ _ _
 refine seq ?_
 refine region ?_
 refine sv (yMove rfl) ?_
 refine sv (yMove rfl) ?_
 refine sv (yShr64 rfl (i := 8) rfl (by decide)) ?_
 refine sv (yAdd64 rfl rfl (show oc4 (oc3 (oc2 (oc1 x))) < _ by omega)) ?_
 refine sv (Y.to (yAsg rfl) (show Value.int .u64 _ = .int .u64 ((oc4 (oc3 (oc2 (oc1 x))) : Nat) : Int) from rfl)) ?_
 refine nil ?_
 show Code.wp _ _ _ _ _
 refine seq ?_
 refine region ?_
 refine sv (yMove rfl) ?_
 refine sv (yMove rfl) ?_
 refine sv (yShr64 rfl (i := 16) rfl (by decide)) ?_
 refine sv (yAdd64 rfl rfl (show oc5 (oc4 (oc3 (oc2 (oc1 x)))) < _ by omega)) ?_
 refine sv (Y.to (yAsg rfl) (show Value.int .u64 _ = .int .u64 ((oc5 (oc4 (oc3 (oc2 (oc1 x)))) : Nat) : Int) from rfl)) ?_
 refine nil ?_
 show Code.wp _ _ _ _ _
 refine seq ?_
 refine region ?_
 refine sv (yMove rfl) ?_
 refine sv (yMove rfl) ?_
 refine sv (yShr64 rfl (i := 32) rfl (by decide)) ?_
 refine sv (yAdd64 rfl rfl (show oc6 (oc5 (oc4 (oc3 (oc2 (oc1 x))))) < _ by omega)) ?_
 refine sv (Y.to (yAsg rfl) (show Value.int .u64 _ = .int .u64 ((oc6 (oc5 (oc4 (oc3 (oc2 (oc1 x))))) : Nat) : Int) from rfl)) ?_
 refine nil ?_
 show Code.wp _ _ _ _ _
 refine seq ?_
 refine region ?_
 refine sv (yMove rfl) ?_
 refine sv (yToI rfl Tryz.underlying56 Tryz.underlying3 ⟨by omega, by omega⟩) ?_
 refine sv (yAndI rfl (b := 127) rfl (by omega) (by decide)) ?_
 refine sv (yAsg rfl) ?_
 refine nil ?_
 show Code.wp _ _ _ _ _
 refine wp_ret ?_
 exact retV (res1 rfl rfl) hS.ext
/-- (barrage/failure.set).size -/
theorem c_size {x : Nat} {w0 : World} (hx : x < 18446744073709551616) : CV Tryz.prog 63 #[.int .u64 ((x : Nat) : Int)] w0 (.int .i64 ((ocF x : Nat) : Int)) := by
 refine enter Tryz.func63 rfl Tryz.ntmps63 rfl ?_
 have hS := St.start w0
 refine seq ?_
 refine region ?_
 refine sv (yAsg rfl) ?_
 refine nil ?_
 show Code.wp _ _ _ _ _
 refine seq ?_
 refine region ?_
 refine sv (yMove rfl) ?_
 refine scall Tryz.call81 (.cons rfl .nil) (c_ones hx) ?_
 rintro _ w ⟨rfl, hE⟩; replace hS := hS.step hE; clear hE
 refine sv (yAsg rfl) ?_
 refine nil ?_
 show Code.wp _ _ _ _ _
 refine wp_ret ?_
 exact retV (res1 rfl rfl) hS.ext
/-- barrage/failure.least   int  closure 1 -/
theorem c_cmpS {a b : Nat} {w0 : World} (ha : a < 18446744073709551616) (hb : b < 18446744073709551616) : CV Tryz.prog 60 #[.int .u64 ((a : Nat) : Int), .int .u64 ((b : Nat) : Int)] w0 (.int .i64 (cmpS a b)) := by
 refine enter Tryz.func60 rfl Tryz.ntmps60 rfl ?_
 have hS := St.start w0
 refine seq ?_
 refine region ?_
 refine sv (yAsg rfl) ?_
 refine nil ?_
 show Code.wp _ _ _ _ _
 refine seq ?_
 refine region ?_
 refine sv (yMove rfl) ?_
 refine scall Tryz.call63 (.cons rfl .nil) (c_size ha) ?_
 rintro _ w ⟨rfl, hE⟩; replace hS := hS.step hE; clear hE
 refine sv (yMove rfl) ?_
 refine scall Tryz.call63 (.cons rfl .nil) (c_size hb) ?_
 rintro _ w ⟨rfl, hE⟩; replace hS := hS.step hE; clear hE
 refine scall Tryz.call62 (.cons rfl (.cons rfl .nil)) c_cmp ?_
 rintro _ w ⟨rfl, hE⟩; replace hS := hS.step hE; clear hE
 refine sv (yMove rfl) ?_
 refine scall Tryz.call36 (.cons rfl .nil) (c_list ha) ?_
 rintro v11 w hM; replace hS := hS.call1 hM; clear hM
 refine sv (yMove rfl) ?_
 refine scall Tryz.call36 (.cons rfl .nil) (c_list hb) ?_
 rintro v13 w hM; replace hS := hS.call1 hM; clear hM
 refine scall Tryz.call64 (.cons rfl (.cons rfl .nil)) (c_Compare (bits_sl (hS.row v11)) (bits_sl (hS.row v13))) ?_
 rintro _ w ⟨rfl, hE⟩; replace hS := hS.step hE; clear hE
 refine sbslice hS Tryz.underlying26 Tryz.sizeOf3 rfl Tryz.zeroValue3 rfl (.cons rfl rfl (.cons rfl rfl .nil)) rfl ?_; clear hS; intro b15 w hS
 refine scall Tryz.call61 (.cons rfl .nil) (c_Or (ints_sl (l := [cmpI (ocF a) (ocF b), cmpL (bitsL a) (bitsL b)]) (hS.at b15) (by intro x hx; simp only [List.mem_cons, List.not_mem_nil, or_false] at hx; rcases hx with rfl | rfl; exact cmpI_64 _ _; exact cmpL_64 _ _) (by simp))) ?_
 rintro _ w ⟨rfl, hE⟩; replace hS := hS.step hE; clear hE
 refine sv (yAsg rfl) ?_
 refine nil ?_
 show Code.wp _ _ _ _ _
 refine wp_ret ?_
 exact retV (res1 rfl rfl) hS.ext
/-- slices.insertionSortCmpFunc barrage/failure.set  -/
theorem c_insSort {l : List Int} {c : Int → Int → Int} {a : Option Addr} {cap g : Nat} {cl : List Value} {w0 : World} (hr : w0.ownsRow 0 57 1 (.slice a l.length cap) l.length (l.flatMap encW)) (hcall : ∀ ys w, (callFunc g ys).run Tryz.prog w = .ok (.enter g ys) w) (hp : ∀ x y w, x ∈ l → y ∈ l → ExtX (Value.slice a l.length cap).ownBlock.toList w0 w → CV Tryz.prog g (.int .u64 x :: .int .u64 y :: cl).toArray w (.int .i64 (c x y))) (hlen : l.length ≤ 20) : CE Tryz.prog 98 #[.slice a l.length cap, .int .i64 0, .int .i64 (l.length : Int), .func (.func g) #[] cl.toArray] w0 (fun u w' => u = .tuple #[] ∧ StX (Value.slice a l.length cap).ownBlock.toList w0 w' [rowI (.slice a l.length cap) 57 1 l.length ((sortV c l).flatMap encW)]) := by
 refine enter Tryz.func98 rfl Tryz.ntmps98 rfl ?_
 have hS := StX.startR hr
 refine seq ?_
 refine region ?_
 refine sv (yMove rfl) ?_
 refine sv (yAdd rfl rfl ⟨by omega, by omega⟩) ?_
 refine sv (yAsg rfl) ?_
 refine nil ?_
 show Code.wp _ _ _ _ _
 refine block ?_
 refine loop (fun f w zz => ∃ (i : Nat), f 0 = .slice a l.length cap ∧ f 1 = .int .i64 0 ∧ f 2 = .int .i64 (l.length : Int) ∧ f 3 = .func (.func g) #[] cl.toArray ∧ f 8 = .int .i64 (i : Int) ∧ StX (Value.slice a l.length cap).ownBlock.toList w0 w ([rowI (.slice a l.length cap) 57 1 l.length (((sortR c (l.take i)).reverse ++ l.drop i).flatMap encW)]) ∧ (1 ≤ i ∧ i ≤ l.length + 1) ∧ zz = l.length + 1 - i) _ ⟨_, rfl, 1, rfl, rfl, rfl, rfl, rfl, (by rw [ins_start]; exact hS), (⟨Nat.le_refl _, by omega⟩), rfl⟩ ?_
 clear hS
 rintro f w _ ⟨i, h0, h1, h2, h3, h8, hS, hi, rfl⟩
 refine seq ?_
 refine seq ?_
 refine region ?_
 refine sv (yMove h8) ?_
 refine sv (yMove h2) ?_
 refine sv (yLss rfl rfl) ?_
 refine nil ?_
 show Code.wp _ _ _ _ _
 refine cond rfl (fun c14 => ?_) (fun c14 => ?_)
 ·
  simp only [BS, ne_eq] at c14
  obtain ⟨x, hx, hd⟩ := drop_of (l := l) (k := i) (by omega)
  obtain ⟨gb, rfl, -⟩ := row_get (hS.row (.slice a l.length cap)) (by omega)
  have hxm := List.mem_of_getElem? hx
  refine skip ?_
  show Code.wp _ _ _ _ _
  refine seq ?_
  refine block ?_
  refine seq ?_
  refine region ?_
  refine sv (yMove h8) ?_
  refine sv (yAsg rfl) ?_
  refine nil ?_
  show Code.wp _ _ _ _ _
  refine block ?_
  have hsl : (sortR c (l.take i)).length = i := by rw [(sortR_perm _).length_eq]; simp; omega
  refine loop (fun f w zz => ∃ (ks js : List Int), f 0 = .slice (some ⟨gb, 0, none⟩) l.length cap ∧ f 1 = .int .i64 0 ∧ f 2 = .int .i64 (l.length : Int) ∧ f 3 = .func (.func g) #[] cl.toArray ∧ f 8 = .int .i64 (i : Int) ∧ f 9 = .int .i64 (ks.length : Int) ∧ StX (Value.slice (some ⟨gb, 0, none⟩) l.length cap).ownBlock.toList w0 w ([rowI (.slice (some ⟨gb, 0, none⟩) l.length cap) 57 1 l.length ((ks ++ [x] ++ js ++ l.drop (i + 1)).flatMap encW)]) ∧ (ks.length + js.length = i) ∧ ((insV c x (sortR c (l.take i))).reverse = (insV c x ks.reverse).reverse ++ js) ∧ (∀ y ∈ ks, y ∈ l) ∧ zz = ks.length) _ ⟨_, rfl, (sortR c (l.take i)).reverse, [], h0, h1, h2, h3, h8, (by rw [List.length_reverse, hsl]; exact rfl), (by rw [List.append_nil, List.append_assoc, List.singleton_append, ← hd]; exact hS), (by simp [hsl]), (by rw [List.reverse_reverse, List.append_nil]), (fun y hy => List.mem_of_mem_take ((sortR_perm _).mem_iff.1 (List.mem_reverse.1 hy))), rfl⟩ ?_
  clear hS
  rintro f w _ ⟨ks, js, h0, h1, h2, h3, h8, h9, hS, hl, hI, hks, rfl⟩
  obtain ⟨y, hy⟩ := last_ex ks
  have hyI : 0 < ks.length → (ks ++ [x] ++ js ++ l.drop (i + 1))[((ks.length : Int) - 1).toNat]? = some y := fun h => inn_prev h (hy h)
  have hxI : (ks ++ [x] ++ js ++ l.drop (i + 1))[ks.length]? = some x := inn_mid _ _ _ _
  refine seq ?_
  refine seq ?_
  refine region_draw mixed (by kernel_rfl) hS ?_
  refine qv (fun w hS => (yMove h9)) ?_
  refine qv (fun w hS => (yMove h1)) ?_
  refine qv (fun w hS => (yGtr rfl rfl)) ?_
  refine qv (fun w hS => (yMove rfl)) ?_
  refine qg rfl rfl rfl (fun g w hS => (yMove h3)) (fun v22 g22 => ?_)
  refine qg rfl rfl rfl (fun g w hS => (yMove h0)) (fun v23 g23 => ?_)
  refine qg rfl rfl rfl (fun g w hS => (yMove h9)) (fun v24 g24 => ?_)
  refine qg rfl rfl rfl (fun g w hS => (yIx0 (m := ks.length) (g23.1 g) (g24.1 g) Tryz.runUnderlying53 Tryz.sizeOf57 (by omega))) (fun v25 g25 => ?_)
  refine qg rfl rfl rfl (fun g w hS => (yLd (g25.1 g) Tryz.isAgg57 ((flat_cells0 (enc := encW) encW_len (row_at (hS.row (.slice (some ⟨gb, 0, none⟩) l.length cap)) rfl (by omega)) hxI).one))) (fun v26 g26 => ?_)
  refine qg rfl rfl rfl (fun g w hS => (yMove h0)) (fun v27 g27 => ?_)
  refine qg rfl rfl rfl (fun g w hS => (yMove h9)) (fun v28 g28 => ?_)
  refine qg rfl rfl rfl (fun g w hS => (ySub (g28.1 g) rfl ⟨by omega, by omega⟩)) (fun v29 g29 => ?_)
  refine qg rfl rfl rfl (fun g w hS => (yIxa (g27.1 g) rfl (g29.1 g) Tryz.runUnderlying53 Tryz.sizeOf57 (by have := of_decide_eq_true g; omega) (by have := of_decide_eq_true g; omega))) (fun v30 g30 => ?_)
  refine qg rfl rfl rfl (fun g w hS => (yLd (g30.1 g) Tryz.isAgg57 ((flat_cells (enc := encW) encW_len (row_at (hS.row (.slice (some ⟨gb, 0, none⟩) l.length cap)) rfl (by omega)) (hyI (by have := of_decide_eq_true g; omega))).one))) (fun v31 g31 => ?_)
  refine qgcf rfl rfl rfl (fun g => (g22.1 g)) hcall (fun g => (.cons (g26.1 g) (.cons (g31.1 g) .nil))) (fun g w hS => (hp x y _ hxm (hks y (List.mem_of_getElem? (hy (by have := of_decide_eq_true g; omega)))) hS.extx)) (fun v32 g32 => ?_)
  refine qg rfl rfl rfl (fun g w hS => (yLss (g32.1 g) rfl)) (fun v33 g33 => ?_)
  refine qv (fun w hS => (yAnd rfl (fun hB => (g33.1 hB)) rfl)) ?_
  clear hS; refine qnil (fun w hS => ?_)
  show Code.wp _ _ _ _ _
  refine cond rfl (fun c34 => ?_) (fun c34 => ?_)
  ·
   simp only [BS, ne_eq] at c34
   obtain ⟨k2, rfl⟩ := last_split (by omega) (hy (by omega))
   refine skip ?_
   show Code.wp _ _ _ _ _
   refine seq ?_
   refine block ?_
   refine region_two mixed [0, 0, 0, 0, 0, 0, 0, 0, 0, 1, 0, 0, 0, 1] 14 14 (fun w => StX (Value.slice (some ⟨gb, 0, none⟩) l.length cap).ownBlock.toList w0 w [rowI (.slice (some ⟨gb, 0, none⟩) l.length cap) 57 1 l.length (((k2 ++ [y]) ++ [x] ++ js ++ l.drop (i + 1)).flatMap encW)]) (fun _ => True) (by kernel_rfl) (fun c a a' w h => by obtain ⟨_, v, hv, _⟩ := h; cases hv) hS (fun _ h => h) (fun _ _ => trivial) ?_
   clear hS; intro w hS
   refine hv0 (fun w => (yMove h0)) ?_
   refine hv0 (fun w => (yMove h9)) ?_
   refine hv0 (fun w => (yMove h0)) ?_
   refine hv0 (fun w => (yMove h9)) ?_
   refine hv0 (fun w => (ySub rfl rfl ⟨by omega, by omega⟩)) ?_
   refine hv0 (fun w => (yMove h0)) ?_
   refine hv0 (fun w => (yMove h9)) ?_
   refine hv0 (fun w => (ySub rfl rfl ⟨by omega, by omega⟩)) ?_
   refine hv0 (fun w => (yIxa rfl rfl rfl Tryz.runUnderlying53 Tryz.sizeOf57 (by omega) (by omega))) ?_
   refine hv1 (fun w hS => (yLd rfl Tryz.isAgg57 ((flat_cells (enc := encW) encW_len (row_at (hS.row (.slice (some ⟨gb, 0, none⟩) l.length cap)) rfl (by omega)) (hyI (by simp))).one))) ?_
   refine hv0 (fun w => (yMove h0)) ?_
   refine hv0 (fun w => (yMove h9)) ?_
   refine hv0 (fun w => (yIx0 (m := (k2 ++ [y]).length) rfl rfl Tryz.runUnderlying53 Tryz.sizeOf57 (by omega))) ?_
   refine hv1 (fun w hS => (yLd rfl Tryz.isAgg57 ((flat_cells0 (enc := encW) encW_len (row_at (hS.row (.slice (some ⟨gb, 0, none⟩) l.length cap)) rfl (by omega)) hxI).one))) ?_
   refine hgnil ?_
   show wpR _ _ _ _ _ _ _ _ _ _ _ _
   refine r_step (i := 14) (is := []) (by kernel_rfl) ⟨?_, trivial⟩
   refine ⟨_, rfl, ?_⟩
   refine sv (yIx0 (m := (k2 ++ [y]).length) rfl rfl Tryz.runUnderlying53 Tryz.sizeOf57 (by omega)) ?_
   refine nil ?_
   refine ⟨⟨fun _ h => h, fun _ h => h⟩, ?_⟩
   show wpR _ _ _ _ _ _ _ _ _ _ _ _
   refine r_step (i := 15) (is := []) (by kernel_rfl) ⟨?_, trivial⟩
   refine ⟨_, rfl, ?_⟩
   refine srst (m := l.length) (cap := cap) (sz := 1) hS rfl rfl Tryz.sizeOf57 rfl rfl (by omega) rfl ?_; clear hS; intro w hS
   refine nil ?_
   refine ⟨⟨fun h => absurd h (by decide), fun h => absurd h (by decide)⟩, ?_⟩
   show wpR _ _ _ _ _ _ _ _ _ _ _ _
   refine r_step (i := 16) (is := []) (by kernel_rfl) ⟨?_, trivial⟩
   refine ⟨_, rfl, ?_⟩
   refine sv (yIx0 (m := k2.length) rfl (rfl.trans (congrArg (Value.int .i64) (by simp))) Tryz.runUnderlying53 Tryz.sizeOf57 (by simp at hl; omega)) ?_
   refine nil ?_
   refine ⟨⟨fun _ h => h, fun _ h => h⟩, ?_⟩
   show wpR _ _ _ _ _ _ _ _ _ _ _ _
   refine r_step (i := 17) (is := []) (by kernel_rfl) ⟨?_, trivial⟩
   refine ⟨_, rfl, ?_⟩
   refine srst (m := l.length) (cap := cap) (sz := 1) hS rfl rfl Tryz.sizeOf57 rfl rfl (by simp at hl; omega) rfl ?_; clear hS; intro w hS
   replace hS : StX (Value.slice (some ⟨gb, 0, none⟩) l.length cap).ownBlock.toList w0 w [rowI (.slice (some ⟨gb, 0, none⟩) l.length cap) 57 1 l.length ((k2 ++ [x] ++ (y :: js) ++ l.drop (i + 1)).flatMap encW)] := by
    have e1 := splice_enc (enc := encW) encW_len (k2 ++ [y] ++ [x] ++ js ++ l.drop (i + 1)) (k2 ++ [y]).length y (by simp)
    have e2 := splice_enc (enc := encW) encW_len ((k2 ++ [y] ++ [x] ++ js ++ l.drop (i + 1)).set (k2 ++ [y]).length y) k2.length x (by simp)
    rw [← e1, show (k2 ++ [y]).length = k2.length + 1 by simp, swap_set] at e2
    rw [← e2]; rw [show (k2 ++ [y]).length = k2.length + 1 by simp] at hS; exact hS
   refine nil ?_
   refine ⟨⟨fun h => absurd h (by decide), fun h => absurd h (by decide)⟩, ?_⟩
   show wpR _ _ _ _ _ _ _ _ _ _ _ _
   refine r_end (by kernel_rfl) ?_
   show Code.wp _ _ _ _ _
   refine region ?_
   refine sv (yMove h9) ?_
   refine sv (ySub rfl rfl ⟨by omega, by omega⟩) ?_
   refine sv (yAsg rfl) ?_
   refine nil ?_
   exact ⟨_, _, rfl, ⟨k2, y :: js, h0, h1, h2, h3, h8, (rfl.trans (congrArg (Value.int .i64) (by simp))), hS, (by simp at hl ⊢; omega), (by rw [hI, ins_move (c34.2), List.reverse_cons, List.append_assoc]; rfl), (fun z hz => hks z (by simp [hz])), rfl⟩, by simp⟩
  ·
   simp only [BS, ne_eq] at c34
   have hst := ins_none hy (by simpa only [Int.not_lt, Nat.not_lt] using (show ¬ 0 < ks.length ∨ ¬ (c x y) < 0 by omega))
   have hfin : (sortR c (l.take (i + 1))).reverse ++ l.drop (i + 1) = ks ++ [x] ++ js ++ l.drop (i + 1) := by rw [sortV_step hx, hI, hst]; simp
   refine exit ?_
   show Code.wp _ _ _ _ _
   refine region ?_
   refine sv (yMove h8) ?_
   refine sv (yAdd rfl rfl ⟨by omega, by omega⟩) ?_
   refine sv (yAsg rfl) ?_
   refine nil ?_
   exact ⟨_, _, rfl, ⟨i + 1, h0, h1, h2, h3, rfl, (by rw [hfin]; exact hS), (⟨by omega, by omega⟩), rfl⟩, by omega⟩
 ·
  simp only [BS, ne_eq] at c14
  have hfin : (sortR c (l.take i)).reverse ++ l.drop i = sortV c l := ins_end (by omega)
  refine exit ?_
  refine thenOut ?_
  refine thenOut ?_
  refine blockIn ?_
  show bodyPost _ _ _ .normal _ _
  refine retN (results_none rfl _ _ _) ?_
  rw [hfin] at hS
  exact ⟨rfl, hS⟩
/-- slices.pdqsortCmpFunc barrage/failure.set  -/
theorem c_pdq {l : List Int} {c : Int → Int → Int} {li : Int} {a : Option Addr} {cap g : Nat} {cl : List Value} {w0 : World} (hr : w0.ownsRow 0 57 1 (.slice a l.length cap) l.length (l.flatMap encW)) (hcall : ∀ ys w, (callFunc g ys).run Tryz.prog w = .ok (.enter g ys) w) (hp : ∀ x y w, x ∈ l → y ∈ l → ExtX (Value.slice a l.length cap).ownBlock.toList w0 w → CV Tryz.prog g (.int .u64 x :: .int .u64 y :: cl).toArray w (.int .i64 (c x y))) (hlen : l.length ≤ 12) : CE Tryz.prog 79 #[.slice a l.length cap, .int .i64 0, .int .i64 (l.length : Int), .int .i64 li, .func (.func g) #[] cl.toArray] w0 (fun u w' => u = .tuple #[] ∧ StX (Value.slice a l.length cap).ownBlock.toList w0 w' [rowI (.slice a l.length cap) 57 1 l.length ((sortV c l).flatMap encW)]) := by
 refine enter Tryz.func79 rfl Tryz.ntmps79 rfl ?_
 have hS := StX.startR hr
 refine seq ?_
 refine region ?_
 refine sv (yAsg rfl) ?_
 refine nil ?_
 show Code.wp _ _ _ _ _
 refine seq ?_
 refine region ?_
 refine sv (yAsg rfl) ?_
 refine nil ?_
 show Code.wp _ _ _ _ _
 refine block ?_
 refine loop (fun f w zz => f 0 = .slice a l.length cap ∧ f 1 = .int .i64 0 ∧ f 2 = .int .i64 (l.length : Int) ∧ f 4 = .func (.func g) #[] cl.toArray ∧ StX (Value.slice a l.length cap).ownBlock.toList w0 w ([rowI (.slice a l.length cap) 57 1 l.length ((l).flatMap encW)]) ∧ zz = 0) _ ⟨_, rfl, rfl, rfl, rfl, rfl, hS, rfl⟩ ?_
 clear hS
 rintro f w _ ⟨h0, h1, h2, h4, hS, rfl⟩
 refine block ?_
 refine seq ?_
 refine region ?_
 refine sv (yMove h2) ?_
 refine sv (yMove h1) ?_
 refine sv (ySub rfl rfl ⟨by omega, by omega⟩) ?_
 refine sv (yAsg rfl) ?_
 refine nil ?_
 show Code.wp _ _ _ _ _
 refine seq ?_
 refine seq ?_
 refine region ?_
 refine sv (yMove rfl) ?_
 refine sv (yLeq rfl rfl) ?_
 refine nil ?_
 show Code.wp _ _ _ _ _
 refine cond rfl (fun c25 => ?_) (fun c25 => ?_)
 ·
  simp only [BS, ne_eq] at c25
  refine seq ?_
  refine region ?_
  refine sv (yMove h0) ?_
  refine sv (yMove h1) ?_
  refine sv (yMove h2) ?_
  refine sv (yMove h4) ?_
  refine scall Tryz.call98 (.cons rfl (.cons rfl (.cons rfl (.cons rfl .nil)))) (c_insSort (hS.row (.slice a l.length cap)) hcall (fun x y w hx hy e => hp x y w hx hy (hS.extx.trans2 e)) (by omega)) ?_
  rintro _ w ⟨rfl, hM⟩
  replace hS := hS.app (v := .slice a l.length cap) (v' := .slice a l.length cap) (hM.row _) hM.grown (.inl rfl)
  clear hM
  refine nil ?_
  show Code.wp _ _ _ _ _
  refine wp_ret (thenR (blockR (thenR (blockR ?_))))
  refine retQ (results_none rfl _ _ _) ?_
  exact ⟨rfl, hS⟩
 ·
  simp only [BS, ne_eq] at c25
  exfalso; omega
set_option maxRecDepth 8000 in
/-- math/bits.Len64 -/
theorem c_Len64 {x : Nat} {w0 : World} (hx : x ≤ 12) : CE Tryz.prog 92 #[.int .u64 (x : Int)] w0 (fun u w' => ∃ r, u = .int .i64 r ∧ Ext w0 w') := by
 refine enter Tryz.func92 rfl Tryz.ntmps92 rfl ?_
 have hS := St.start w0
 refine seq ?_
 refine region ?_
 refine sv (yAsg rfl) ?_
 refine nil ?_
 show Code.wp _ _ _ _ _
 refine seq ?_
 refine seq ?_
 refine region ?_
 refine sv (yMove rfl) ?_
 refine sv (yGeq rfl rfl) ?_
 refine nil ?_
 show Code.wp _ _ _ _ _
 refine cond rfl (fun c4 => ?_) (fun c4 => ?_)
 ·
  simp only [BS, ne_eq] at c4
  exfalso; omega
 ·
  simp only [BS, ne_eq] at c4
  refine skip ?_
  show Code.wp _ _ _ _ _
  refine seq ?_
  refine seq ?_
  refine region ?_
  refine sv (yMove rfl) ?_
  refine sv (yGeq rfl rfl) ?_
  refine nil ?_
  show Code.wp _ _ _ _ _
  refine cond rfl (fun c8 => ?_) (fun c8 => ?_)
  ·
   simp only [BS, ne_eq] at c8
   exfalso; omega
  ·
   simp only [BS, ne_eq] at c8
   refine skip ?_
   show Code.wp _ _ _ _ _
   refine seq ?_
   refine seq ?_
   refine region ?_
   refine sv (yMove rfl) ?_
   refine sv (yGeq rfl rfl) ?_
   refine nil ?_
   show Code.wp _ _ _ _ _
   refine cond rfl (fun c14 => ?_) (fun c14 => ?_)
   ·
    simp only [BS, ne_eq] at c14
    exfalso; omega
   ·
    simp only [BS, ne_eq] at c14
    refine skip ?_
    show Code.wp _ _ _ _ _
    refine seq ?_
    refine region ?_
    refine sv (yMove rfl) ?_
    refine sv (yMove rfl) ?_
    refine sv (Y.to (yConvW rfl Tryz.underlying56 Tryz.underlying5) (show Value.int .u8 _ = .int .u8 ((x : Nat) : Int) from congrArg (Value.int .u8) (IntWalk.u8_in _ ⟨by omega, by omega⟩))) ?_
    refine sv (yIxC rfl rfl Tryz.underlying9 (Nat.lt_of_lt_of_le (show x < 13 by omega) (show 13 ≤ ByteArray.size _ from Nat.le_of_ble_eq_true rfl))) ?_
    refine sv (yToI rfl Tryz.underlying5 Tryz.underlying3 (u8_64 _)) ?_
    refine sv (yAdd rfl rfl (u8_64a _)) ?_
    refine sv (yAsg rfl) ?_
    refine nil ?_
    show Code.wp _ _ _ _ _
    refine wp_ret ?_
    refine retQ (res1 rfl rfl) ?_
    exact ⟨_, rfl, hS.ext⟩
/-- math/bits.Len -/
theorem c_Len {x : Nat} {w0 : World} (hx : x ≤ 12) : CE Tryz.prog 67 #[.int .u64 (x : Int)] w0 (fun u w' => ∃ r, u = .int .i64 r ∧ Ext w0 w') := by
 refine enter Tryz.func67 rfl Tryz.ntmps67 rfl ?_
 have hS := St.start w0
 refine seq ?_
 refine region ?_
 refine sv (yAsg rfl) ?_
 refine nil ?_
 show Code.wp _ _ _ _ _
 refine seq ?_
 refine cond rfl (fun cK => ?_) (fun cK => ?_)
 ·
  exact absurd cK (by decide)
 ·
  refine skip ?_
  show Code.wp _ _ _ _ _
  refine seq ?_
  refine region ?_
  refine sv (yMove rfl) ?_
  refine scall Tryz.call92 (.cons rfl .nil) (c_Len64 hx) ?_
  rintro _ w ⟨r, rfl, hE⟩; replace hS := hS.step hE; clear hE
  refine sv (yAsg rfl) ?_
  refine nil ?_
  show Code.wp _ _ _ _ _
  refine wp_ret ?_
  refine retQ (res1 rfl rfl) ?_
  exact ⟨_, rfl, hS.ext⟩
/-- slices.SortFunc   barrage/failure.set,barrage/failure.set  -/
theorem c_SortSets {l : List Int} {c : Int → Int → Int} {a : Option Addr} {cap g : Nat} {cl : List Value} {w0 : World} (hr : w0.ownsRow 0 57 1 (.slice a l.length cap) l.length (l.flatMap encW)) (hcall : ∀ ys w, (callFunc g ys).run Tryz.prog w = .ok (.enter g ys) w) (hp : ∀ x y w, x ∈ l → y ∈ l → ExtX (Value.slice a l.length cap).ownBlock.toList w0 w → CV Tryz.prog g (.int .u64 x :: .int .u64 y :: cl).toArray w (.int .i64 (c x y))) (hlen : l.length ≤ 12) : CE Tryz.prog 59 #[.slice a l.length cap, .func (.func g) #[] cl.toArray] w0 (fun u w' => u = .tuple #[] ∧ StX (Value.slice a l.length cap).ownBlock.toList w0 w' [rowI (.slice a l.length cap) 57 1 l.length ((sortV c l).flatMap encW)]) := by
 refine enter Tryz.func59 rfl Tryz.ntmps59 rfl ?_
 have hS := StX.startR hr
 refine seq ?_
 refine region ?_
 refine sv (yMove rfl) ?_
 refine sv (yLen rfl Tryz.underlying53) ?_
 refine sv (yAsg rfl) ?_
 refine nil ?_
 show Code.wp _ _ _ _ _
 refine region ?_
 refine sv (yMove rfl) ?_
 refine sv (yMove rfl) ?_
 refine sv (yMove rfl) ?_
 refine sv (yToU rfl Tryz.underlying3 Tryz.underlying101 ⟨by omega, by omega⟩) ?_
 refine scall Tryz.call67 (.cons rfl .nil) (c_Len hlen) ?_
 rintro _ w ⟨li, rfl, hE⟩; replace hS := hS.step hE; clear hE
 refine sv (yMove rfl) ?_
 refine scall Tryz.call79 (.cons rfl (.cons rfl (.cons rfl (.cons rfl (.cons rfl .nil))))) (c_pdq (hS.row (.slice a l.length cap)) hcall (fun x y w hx hy e => hp x y w hx hy (hS.extx.trans2 e)) hlen) ?_
 rintro _ w ⟨rfl, hM⟩
 replace hS := hS.app (v := .slice a l.length cap) (v' := .slice a l.length cap) (hM.row _) hM.grown (.inl rfl)
 clear hM
 refine nil ?_
 show bodyPost _ _ _ .normal _ _
 refine retN (results_none rfl _ _ _) ?_
 exact ⟨rfl, hS⟩
end Go.Proofs.YtbbpiebhnbhbiaaGreat
namespace Bx
open Go Go.RowKit
def lesP (p : Nat → Bool) (s : Nat) (z : List Int) : Bool := z.any fun i => p (dif s (0 ||| 2 ^ i.toNat))
def keepP (p : Nat → Bool) (s : Nat) : Bool := p s && !lesP p s (bitsL s)
def fndP (p : Nat → Bool) (ss : List Nat) : List Nat := ss.filter (keepP p)
abbrev cmpT (a b : Int) : Int := cmpS a.toNat b.toNat
def leaP (p : Nat → Bool) (all : Nat) : List Int := sortV cmpT (toI (fndP p (subL all)))
def leaQ (p : Nat → Bool) (all : Nat) : List (List Int) := (leaP p all).map fun s => bitsL s.toNat
variable {p : Nat → Bool}
theorem fnd_yes {pre : List Nat} {x : Nat} (h : keepP p x = true) : fndP p (pre ++ [x]) = fndP p pre ++ [x] := by unfold fndP; rw [List.filter_append]; simp [List.filter, h]
theorem fnd_no {pre : List Nat} {x : Nat} (h : keepP p x = false) : fndP p (pre ++ [x]) = fndP p pre := by unfold fndP; rw [List.filter_append]; simp [List.filter, h]
theorem fnd_le {pre all : List Nat} (h : pre <+: all) : (fndP p pre).length ≤ (fndP p all).length := by
 obtain ⟨r, rfl⟩ := h
 unfold fndP; rw [List.filter_append, List.length_append]; omega
theorem les_step {s k : Nat} {z : List Int} {x : Int} (h : z[k]? = some x) : lesP p s (z.take (k + 1)) = (lesP p s (z.take k) || p (dif s (0 ||| 2 ^ x.toNat))) := by
 unfold lesP; rw [take_snoc h, List.any_append]; simp
theorem keep_no {x : Nat} (h : p x = false) : keepP p x = false := by unfold keepP; rw [h]; rfl
theorem keep_at {x : Nat} (h : p x = true) : keepP p x = !lesP p x (bitsL x) := by unfold keepP; rw [h]; rfl
theorem sub_hd {all n s : Nat} : ∃ r, subF all n s = s :: r := by cases n with
 | zero => exact ⟨_, rfl⟩
 | succ n => exact ⟨_, rfl⟩
theorem sub_le {all : Nat} : ∀ {n s : Nat}, s ≤ all → ∀ x ∈ subF all n s, x ≤ all
  | 0, s, h, x, hx => by rw [List.mem_singleton.1 hx]; exact h
  | n + 1, s, h, x, hx => by
    rcases List.mem_cons.1 hx with rfl | hx
    · exact h
    · split at hx
      · cases hx
      · exact sub_le (and_le) x hx
theorem subL_le {all x : Nat} (h : x ∈ subL all) : x ≤ all := sub_le (Nat.le_refl _) x h
theorem sub_pre {all n s : Nat} {pre : List Nat} (h : subL all = pre ++ subF all n s) : (pre ++ [s]) <+: subL all := by
 obtain ⟨r, hr⟩ := sub_hd (all := all) (n := n) (s := s)
 exact ⟨r, by rw [h, hr]; simp⟩
theorem sub_lt {all s : Nat} (h : s ≠ 0) : (s - 1) &&& all < s := by have := @Nat.and_le_left (s - 1) all; omega
theorem leaP_len (p : Nat → Bool) (all : Nat) : (leaP p all).length = (fndP p (subL all)).length := by unfold leaP; rw [(sortV_perm _).length_eq]; simp [toI]
theorem leaP_mem {all : Nat} {x : Int} (h : x ∈ leaP p all) : ∃ n : Nat, x = (n : Int) ∧ n ≤ all := by
 have h1 := (sortV_perm (c := cmpT) _).mem_iff.1 h
 obtain ⟨n, hn, rfl⟩ := List.mem_map.1 h1
 exact ⟨n, rfl, subL_le (List.mem_filter.1 hn).1⟩
def SlI (w : World) (us : List Value) (zs : List (List Int)) : Prop := us.length = zs.length ∧ ∀ (j : Nat) v z, us[j]? = some v → zs[j]? = some z → Sl w 1 RInt v z
theorem SlI.nil (w : World) : SlI w [] [] := ⟨rfl, fun j v z h => by simp at h⟩
theorem SlI.snoc {w : World} {us : List Value} {zs : List (List Int)} {v : Value} {z : List Int} (h : SlI w us zs) (hz : Sl w 1 RInt v z) : SlI w (us ++ [v]) (zs ++ [z]) := by
  refine ⟨by rw [List.length_append, List.length_append, h.1]; rfl, fun j v' z' h1 h2 => ?_⟩
  by_cases hj : j < us.length
  · rw [List.getElem?_append_left hj] at h1
    rw [List.getElem?_append_left (by rw [← h.1]; exact hj)] at h2
    exact h.2 j v' z' h1 h2
  · have hj2 : j = us.length := by
      have := (List.getElem?_eq_some_iff.1 h1).1
      rw [List.length_append, List.length_singleton] at this
      omega
    subst hj2
    rw [List.getElem?_append_right (Nat.le_refl _), Nat.sub_self] at h1
    rw [h.1, List.getElem?_append_right (Nat.le_refl _), Nat.sub_self] at h2
    cases h1; cases h2
    exact hz
theorem SlI.rows {w : World} : ∀ {us : List Value} {zs : List (List Int)}, SlI w us zs → Bx.Rows w 1 RIl (us.map fun v => [v]) zs
 | [], [], _ => trivial
 | [], z :: zs, h => absurd h.1 (by simp)
 | v :: us, [], h => absurd h.1 (by simp)
 | v :: us, z :: zs, h => ⟨rfl, ⟨v, rfl, h.2 0 v z rfl rfl⟩, SlI.rows ⟨by have := h.1; simpa using this, fun j v' z' h1 h2 => h.2 (j + 1) v' z' (by simpa using h1) (by simpa using h2)⟩⟩
theorem SlI.sl {w : World} {E : TypeId} {qv : Value} {us : List Value} {zs : List (List Int)} (hrow : w.ownsRow 0 E 1 qv us.length us) (h : SlI w us zs) : Sl w 1 RIl qv zs := by
 have e : (us.map fun v => [v]).flatten = us := by
  clear hrow h
  induction us with
  | nil => rfl
  | cons v us ih => rw [List.map_cons, List.flatten_cons, ih]; rfl
 have hrow2 : w.ownsRow 0 E 1 qv us.length (us.map fun v => [v]).flatten := by rw [e]; exact hrow
 exact sl_of_row hrow2 h.rows h.1.symm
/-- A function that says of sets whether something holds of them, out of what it owns. -/
def Prd (P : Program) (g : FuncId) (cl : List Value) (w0 : World) (A : Item) (p : Nat → Bool) : Prop :=
 ∀ (s : Nat) (w : World) (M : List Item), s < 18446744073709551616 → StX [] w0 w (A :: M) → CE P g (.int .u64 (s : Int) :: cl).toArray w fun u w' => u = .bool (p s) ∧ StX [] w0 w' (A :: M)
theorem lea_push {S : List Nat} {w0 w : World} {L M : List Item} {A X R : Item} (h : StX S w0 w (A :: X :: R :: packI M :: L)) : StX S w0 w (R :: packI (M ++ [X]) :: L) := by
 have h1 : StX S w0 w (X :: R :: packI M :: L) := h.sub (.cons _ (List.Sublist.refl _))
 have h4 : StX S w0 w (X :: packI M :: R :: L) := h1.perm ((List.Perm.swap _ _ _).cons _ |>.trans (.refl _))
 exact h4.packs.perm (.swap _ _ _)
theorem lea_step {p : Nat → Bool} {all k n : Nat} (h : (leaP p all)[k]? = some (n : Int)) : (leaQ p all).take (k + 1) = (leaQ p all).take k ++ [bitsL n] := by
 refine take_snoc ?_
 unfold leaQ
 rw [List.getElem?_map, h]; rfl
end Bx
namespace Go.Proofs.YtbbpiebhnbhbiaaGreat
open Go Bx
/-- barrage/failure.subsets -/
theorem c_subsets {all : Nat} {w0 : World} : CE Tryz.prog 34 #[.int .u64 ((all : Nat) : Int)] w0 (fun u w' => ∃ b, u = .func (.func 65) #[] [.pointer (some ⟨b, 0, none⟩)].toArray ∧ St w0 w' [blk b [.int .u64 ((all : Nat) : Int)] 57]) := by
 refine enter Tryz.func34 rfl Tryz.ntmps34 rfl ?_
 have hS := St.start w0
 refine seq ?_
 refine region ?_
 refine sbox hS rfl rfl ?_; clear hS; intro b1 w hS
 refine sv (yAsg rfl) ?_
 refine nil ?_
 show Code.wp _ _ _ _ _
 refine seq ?_
 refine region ?_
 refine sv (yFn (.cons rfl .nil)) ?_
 refine sv (yAsg rfl) ?_
 refine nil ?_
 show Code.wp _ _ _ _ _
 refine wp_ret ?_
 refine retQ (res1 rfl rfl) ?_
 exact ⟨b1, rfl, hS⟩
/-- barrage/failure.subsets closure 1 -/
theorem it_subsets {all b : Nat} {w0 : World} (hall : all < 18446744073709551616) : ItC Tryz.prog 65 [.pointer (some ⟨b, 0, none⟩)] w0 [blk b [.int .u64 ((all : Nat) : Int)] 57] Bx.encU (subL all) := by
 intro yl Cb w L hY h0 hS
 replace hS : StX [] w0 w (blk b [.int .u64 ((all : Nat) : Int)] 57 :: L) := hS
 refine enterX Tryz.func65 rfl Tryz.ntmps65 rfl ?_
 skip
 refine seqX ?_
 refine regionX rfl ?_
 refine sv (yLdB rfl Tryz.isAgg57 (hS.at _) rfl) ?_
 refine sv (yAsg rfl) ?_
 refine nil ?_
 show Code.wpIn _ _ _ _ _ _ _
 refine blockX ?_
 refine loopX (fun f w zz => ∃ (n s : Nat) (pre : List Nat) (L : List Bx.Item), f 0 = .func (.yield yl) #[] #[] ∧ f 1 = .pointer (some ⟨b, 0, none⟩) ∧ f 3 = .int .u64 ((s : Nat) : Int) ∧ StX [] w0 w (blk b [.int .u64 ((all : Nat) : Int)] 57 :: L) ∧ (s ≤ n ∧ s ≤ all) ∧ (subL all = pre ++ subF all n s) ∧ (Cb true pre L) ∧ zz = s + 1) _ ⟨_, rfl, all, all, [], L, rfl, rfl, rfl, hS, (⟨Nat.le_refl _, Nat.le_refl _⟩), (rfl), (h0), rfl⟩ ?_
 clear hS
 rintro f w _ ⟨n, s, pre, L, h0, h1, h3, hS, hn, hI, hcb, rfl⟩
 refine seqX ?_
 refine blockX ?_
 refine seqX ?_
 refine regionL ?_
 refine preX 2 rfl ?_
 refine sv (yMove h0) ?_
 refine sv (yMove h3) ?_
 refine nil ?_
 show wpListIn _ _ _ _ _ _ _ _
 refine yieldU rfl (.cons rfl .nil) (hY pre s w L [blk b [.int .u64 ((all : Nat) : Int)] 57] (sub_pre hI) hcb hS) ?_
 clear hS hcb; rintro _ w ⟨bb, L, rfl, hcb, hS⟩
 replace hS : StX [] w0 w (blk b [.int .u64 ((all : Nat) : Int)] 57 :: L) := hS
 refine endX rfl ?_
 refine sv (yNot rfl) ?_
 refine sv (yMove rfl) ?_
 refine sg rfl rfl rfl (fun g => (yMove h3)) (fun v14 g14 => ?_)
 refine sg rfl rfl rfl (fun g => (yEql (g14.1 g) rfl)) (fun v15 g15 => ?_)
 refine sv (yOr rfl rfl (fun hB => (g15.1 hB))) ?_
 refine nil ?_
 show Code.wpIn _ _ _ _ _ _ _
 refine condX rfl (fun c16 => ?_) (fun c16 => ?_)
 ·
  skip
  refine wpIn_ret (blockR (thenR (thenR (blockR ?_))))
  refine leafX (results_none rfl _ _ _) ?_
  cases bb with
  | false => exact ⟨L, hS.sub (.cons _ (List.Sublist.refl _)), .inr ⟨_, hcb⟩⟩
  | true =>
   obtain rfl : s = 0 := by simp at c16; omega
   refine ⟨L, hS.sub (.cons _ (List.Sublist.refl _)), .inl ?_⟩
   rw [hI, sub_z]; exact hcb
 ·
  skip
  obtain ⟨rfl, hs0⟩ : bb = true ∧ s ≠ 0 := by
   cases bb
   ·
    simp at c16
   ·
    refine ⟨rfl, fun h => ?_⟩; subst h; simp at c16
  refine skipX ?_
  show Code.wpIn _ _ _ _ _ _ _
  refine regionX rfl ?_
  refine sv (yMove h3) ?_
  refine sv (Y.to (ySubW rfl rfl) (show Value.int .u64 _ = .int .u64 ((s - 1 : Nat) : Int) from congrArg (Value.int .u64) ((IntWalk.u64_in _ ⟨by omega, by omega⟩).trans (by omega)))) ?_
  refine sv (yLdB h1 Tryz.isAgg57 (hS.at _) rfl) ?_
  refine sv (yAnd64 rfl (b := all) rfl (by omega) hall) ?_
  refine sv (yAsg rfl) ?_
  refine nil ?_
  exact ⟨_, _, rfl, ⟨n - 1, (s - 1) &&& all, pre ++ [s], L, h0, h1, rfl, hS, (⟨by have := sub_lt (all := all) hs0; omega, and_le⟩), (by rw [hI, sub_s hs0 hn.1]; simp), (hcb), rfl⟩, by have := sub_lt (all := all) hs0; omega⟩
/-- barrage/failure.least   int  -/
theorem c_least {all b g : Nat} {cl : List Value} {p : Nat → Bool} {A0 : Bx.Item} {w0 w : World} {L9 : List Bx.Item} (hall : all < 18446744073709551616) (hp : Prd Tryz.prog g cl w0 A0 p) (eg : ∀ ys w, (callFunc g ys).run Tryz.prog w = .ok (.enter g ys) w) (hfl : (fndP p (subL all)).length ≤ 12) (hS : StX [] w0 w (blk b [.int .u64 ((all : Nat) : Int)] 57 :: A0 :: L9)) : CE Tryz.prog 33 #[.func (.func 65) #[] [.pointer (some ⟨b, 0, none⟩)].toArray, .func (.func g) #[] cl.toArray, .func (.func 36) #[] #[]] w (fun u w' => ∃ us its, (∀ w2 : World, (∀ it ∈ its, it.ok w2) → SlI w2 us (leaQ p all)) ∧ StX [] w0 w' (rowI u 26 1 us.length us :: packI its :: A0 :: L9)) := by
 refine enterX Tryz.func33 rfl Tryz.ntmps33 rfl ?_
 skip
 refine seqX ?_
 refine regionX rfl ?_
 refine sbox hS rfl rfl ?_; clear hS; intro b4 w hS
 refine sv (yAsg rfl) ?_
 refine nil ?_
 show Code.wpIn _ _ _ _ _ _ _
 refine seqX ?_
 refine regionX rfl ?_
 refine salloc hS Tryz.zeroValue53 rfl ?_; clear hS; intro b7 w hS
 refine nil ?_
 show Code.wpIn _ _ _ _ _ _ _
 refine seqX ?_
 refine seqX ?_
 refine regionX rfl ?_
 refine sv (yMove rfl) ?_
 refine nil ?_
 show Code.wpIn _ _ _ _ _ _ _
 refine blockX ?_
 replace hS : StX [] w0 w (blk b [.int .u64 ((all : Nat) : Int)] 57 :: A0 :: rowI (.slice none 0 0) 57 1 (fndP p ([])).length ((fndP p ([])).flatMap Bx.encU) :: blk b7 [.slice none 0 0] 53 :: blk b4 [.func (.func g) #[] cl.toArray] 110 :: L9) := StX.front (A := [_, _, _, _]) (StX.front (A := [_, _, _, _]) (hS.nilrow 57 1))
 refine rangeX (R := [blk b [.int .u64 ((all : Nat) : Int)] 57]) (L0 := A0 :: rowI (.slice none 0 0) 57 1 (fndP p ([])).length ((fndP p ([])).flatMap Bx.encU) :: blk b7 [.slice none 0 0] 53 :: blk b4 [.func (.func g) #[] cl.toArray] 110 :: L9) (ps := [15]) rfl Tryz.call65 hS (it_subsets hall) (fun cc pre L => cc = none ∧ ∃ fv, L = A0 :: rowI (fv) 57 1 (fndP p (pre)).length ((fndP p (pre)).flatMap Bx.encU) :: blk b7 [fv] 53 :: blk b4 [.func (.func g) #[] cl.toArray] 110 :: L9) ⟨rfl, _, rfl⟩ (fun _ _ => rfl) ?_ ?_ ?_
 ·
  clear hS
  intro yl pre x w L M hpre hcb hS
  obtain ⟨-, fv, rfl⟩ := hcb
  have hfx := fnd_le (p := p) hpre
  have hxl : x ≤ all := subL_le (hpre.subset (by simp))
  have hx64 : x < 18446744073709551616 := by omega
  replace hS : StX [] w0 w (A0 :: rowI (fv) 57 1 (fndP p (pre)).length ((fndP p (pre)).flatMap Bx.encU) :: blk b7 [fv] 53 :: blk b4 [.func (.func g) #[] cl.toArray] 110 :: (L9 ++ M)) := hS
  refine regionX rfl ?_
  refine sv (yAsg rfl) ?_
  refine nil ?_
  refine ⟨_, A0 :: rowI (fv) 57 1 (fndP p (pre)).length ((fndP p (pre)).flatMap Bx.encU) :: blk b7 [fv] 53 :: blk b4 [.func (.func g) #[] cl.toArray] 110 :: L9, rfl, hS, ?_⟩
  clear hS M; intro M w hS; replace hS : StX [] w0 w (A0 :: rowI (fv) 57 1 (fndP p (pre)).length ((fndP p (pre)).flatMap Bx.encU) :: blk b7 [fv] 53 :: blk b4 [.func (.func g) #[] cl.toArray] 110 :: (L9 ++ M)) := hS
  refine blockX ?_
  refine seqX ?_
  refine seqX ?_
  refine regionX rfl ?_
  refine sv (yLdB rfl Tryz.isAgg110 (hS.at _) rfl) ?_
  refine sv (yMove rfl) ?_
  refine scallf rfl eg (.cons rfl .nil) (hp x _ _ hx64 hS) ?_
  rintro _ w ⟨rfl, hS⟩
  refine sv (yNot rfl) ?_
  refine nil ?_
  show Code.wpIn _ _ _ _ _ _ _
  refine condX rfl (fun c19 => ?_) (fun c19 => ?_)
  ·
   have k19 : p x = false := by simpa using c19
   refine exitX ?_
   exact ⟨_, ⟨rfl, fv, rfl⟩, (by rw [fnd_no (keep_no k19)]; exact hS)⟩
  ·
   have k19 : p x = true := by simpa using c19
   have hkk := keep_at k19
   refine skipX ?_
   show Code.wpIn _ _ _ _ _ _ _
   refine seqX ?_
   refine regionX rfl ?_
   refine sv (yAsg rfl) ?_
   refine nil ?_
   show Code.wpIn _ _ _ _ _ _ _
   refine seqX ?_
   refine seqX ?_
   refine regionX rfl ?_
   refine sv (yMove rfl) ?_
   refine scall Tryz.call36 (.cons rfl .nil) (c_list hx64) ?_
   rintro v21 w hM; replace hS := (hS.call1 hM).perm (.swap _ _ _); clear hM
   obtain ⟨a21, c21, rfl⟩ := row_shape (hS.row v21)
   have hbl : (bitsL x).length ≤ 64 := bitsK_len x 64
   refine sv (yLen rfl Tryz.underlying26) ?_
   refine sv (yMove rfl) ?_
   refine nil ?_
   show Code.wpIn _ _ _ _ _ _ _
   refine blockX ?_
   refine loopX (fun f w zz => ∃ (k : Nat), f 4 = .pointer (some ⟨b4, 0, none⟩) ∧ f 7 = .pointer (some ⟨b7, 0, none⟩) ∧ f 8 = .int .u64 ((x : Nat) : Int) ∧ f 21 = .slice a21 (bitsL x).length c21 ∧ f 22 = .int .i64 ((bitsL x).length : Int) ∧ f 23 = .int .i64 (k : Int) ∧ f 9 = .bool (lesP p x ((bitsL x).take k)) ∧ StX [] w0 w (A0 :: rowI (.slice a21 (bitsL x).length c21) 3 1 (bitsL x).length ((bitsL x).flatMap Bx.encI) :: rowI (fv) 57 1 (fndP p (pre)).length ((fndP p (pre)).flatMap Bx.encU) :: blk b7 [fv] 53 :: blk b4 [.func (.func g) #[] cl.toArray] 110 :: (L9 ++ M)) ∧ (k ≤ (bitsL x).length) ∧ zz = (bitsL x).length - k) _ ⟨_, rfl, 0, rfl, rfl, rfl, rfl, rfl, rfl, rfl, hS, (Nat.zero_le _), rfl⟩ ?_
   clear hS
   rintro f w _ ⟨k, h4, h7, h8, h21, h22, h23, h9, hS, hk, rfl⟩
   refine seqX ?_
   refine regionX rfl ?_
   refine sv (yLss h23 h22) ?_
   refine nil ?_
   show Code.wpIn _ _ _ _ _ _ _
   refine seqX ?_
   refine condX rfl (fun c24 => ?_) (fun c24 => ?_)
   ·
    simp only [BS, ne_eq] at c24
    obtain ⟨y, hy, hd⟩ := drop_of (l := bitsL x) (k := k) (by omega)
    obtain ⟨g21, rfl, -⟩ := row_get (hS.row (.slice a21 (bitsL x).length c21)) (by omega)
    have hym := bitsL_mem (List.mem_of_getElem? hy)
    have hst := les_step (p := p) (s := x) hy
    refine skipX ?_
    show Code.wpIn _ _ _ _ _ _ _
    refine seqXJ (n := 59) (ds := []) (fun f w => f 4 = .pointer (some ⟨b4, 0, none⟩) ∧ f 7 = .pointer (some ⟨b7, 0, none⟩) ∧ f 8 = .int .u64 ((x : Nat) : Int) ∧ f 21 = .slice (some ⟨g21, 0, none⟩) (bitsL x).length c21 ∧ f 22 = .int .i64 ((bitsL x).length : Int) ∧ f 23 = .int .i64 (k : Int) ∧ f 9 = .bool (lesP p x ((bitsL x).take (k + 1))) ∧ StX [] w0 w (A0 :: rowI (.slice (some ⟨g21, 0, none⟩) (bitsL x).length c21) 3 1 (bitsL x).length ((bitsL x).flatMap Bx.encI) :: rowI (fv) 57 1 (fndP p (pre)).length ((fndP p (pre)).flatMap Bx.encU) :: blk b7 [fv] 53 :: blk b4 [.func (.func g) #[] cl.toArray] 110 :: (L9 ++ M)) ∧ True) ?_ ?_
    ·
     refine blockX ?_
     refine seqX ?_
     refine regionX rfl ?_
     refine sv (yIx0 (m := k) h21 h23 Tryz.runUnderlying26 Tryz.sizeOf3 (by omega)) ?_
     refine sv (yLd rfl Tryz.isAgg3 ((flat_cells0 (enc := Bx.encI) encI_len (row_at (hS.row (.slice (some ⟨g21, 0, none⟩) (bitsL x).length c21)) rfl (by omega)) hy).one)) ?_
     refine sv (yAsg rfl) ?_
     refine nil ?_
     show Code.wpIn _ _ _ _ _ _ _
     by_cases hb9 : lesP p x ((bitsL x).take k) = true
     ·
      refine region_anyX (C := (fun w => StX [] w0 w (A0 :: rowI (.slice (some ⟨g21, 0, none⟩) (bitsL x).length c21) 3 1 (bitsL x).length ((bitsL x).flatMap Bx.encI) :: rowI (fv) 57 1 (fndP p (pre)).length ((fndP p (pre)).flatMap Bx.encU) :: blk b7 [fv] 53 :: blk b4 [.func (.func g) #[] cl.toArray] 110 :: (L9 ++ M)))) mixed 0 10 (by kernel_rfl) rfl hS (fun w hS => (by refine hS.sub ?_; repeat first | exact List.Sublist.refl _ | exact List.nil_sublist _ | apply List.Sublist.cons_cons | apply List.Sublist.cons)) ?_
      clear hS; intro w hS
      refine hnil ?_
      refine f_step 0 (by kernel_rfl) rfl (fun _ _ _ _ h => False.elim h) (by refine hS.sub ?_; repeat first | exact List.Sublist.refl _ | exact List.nil_sublist _ | apply List.Sublist.cons_cons | apply List.Sublist.cons) (fun w hS => (yMove h9)) ?_
      refine f_step 1 (by kernel_rfl) rfl (fun _ _ _ _ h => False.elim h) (by refine hS.sub ?_; repeat first | exact List.Sublist.refl _ | exact List.nil_sublist _ | apply List.Sublist.cons_cons | apply List.Sublist.cons) (fun w hS => (yMove rfl)) ?_
      refine f_skip 2 (by kernel_rfl) rfl rfl rfl (fun _ _ _ _ h => False.elim h) (by refine hS.sub ?_; repeat first | exact List.Sublist.refl _ | exact List.nil_sublist _ | apply List.Sublist.cons_cons | apply List.Sublist.cons) (u := (.bool (lesP p x ((bitsL x).take k)))) rfl (by rw [hb9]; simp) ?_
      refine f_skip 3 (by kernel_rfl) rfl rfl rfl (fun _ _ _ _ h => False.elim h) (by refine hS.sub ?_; repeat first | exact List.Sublist.refl _ | exact List.nil_sublist _ | apply List.Sublist.cons_cons | apply List.Sublist.cons) (u := (.bool (lesP p x ((bitsL x).take k)))) rfl (by rw [hb9]; simp) ?_
      refine f_skip 4 (by kernel_rfl) rfl rfl rfl (fun _ _ _ _ h => False.elim h) (by refine hS.sub ?_; repeat first | exact List.Sublist.refl _ | exact List.nil_sublist _ | apply List.Sublist.cons_cons | apply List.Sublist.cons) (u := (.bool (lesP p x ((bitsL x).take k)))) rfl (by rw [hb9]; simp) ?_
      refine f_skip 5 (by kernel_rfl) rfl rfl rfl (fun _ _ _ _ h => False.elim h) (by refine hS.sub ?_; repeat first | exact List.Sublist.refl _ | exact List.nil_sublist _ | apply List.Sublist.cons_cons | apply List.Sublist.cons) (u := (.bool (lesP p x ((bitsL x).take k)))) rfl (by rw [hb9]; simp) ?_
      refine f_skip 6 (by kernel_rfl) rfl rfl rfl (fun _ _ _ _ h => False.elim h) (by refine hS.sub ?_; repeat first | exact List.Sublist.refl _ | exact List.nil_sublist _ | apply List.Sublist.cons_cons | apply List.Sublist.cons) (u := (.bool (lesP p x ((bitsL x).take k)))) rfl (by rw [hb9]; simp) ?_
      refine f_skip 7 (by kernel_rfl) rfl rfl rfl (fun _ _ _ _ h => False.elim h) (by refine hS.sub ?_; repeat first | exact List.Sublist.refl _ | exact List.nil_sublist _ | apply List.Sublist.cons_cons | apply List.Sublist.cons) (u := (.bool (lesP p x ((bitsL x).take k)))) rfl (by rw [hb9]; simp) ?_
      refine f_step 8 (by kernel_rfl) rfl (fun _ _ _ _ h => False.elim h) (by refine hS.sub ?_; repeat first | exact List.Sublist.refl _ | exact List.nil_sublist _ | apply List.Sublist.cons_cons | apply List.Sublist.cons) (fun w hS => (yPick (B := true) (rfl.trans (congrArg Value.bool hb9)) (fun _ => rfl) (fun h => nomatch h))) ?_
      refine f_step 9 (by kernel_rfl) rfl (fun _ _ _ _ h => False.elim h) (by refine hS.sub ?_; repeat first | exact List.Sublist.refl _ | exact List.nil_sublist _ | apply List.Sublist.cons_cons | apply List.Sublist.cons) (fun w hS => (yAsg rfl)) ?_
      refine a_end (by kernel_rfl) ?_
      exact ⟨_, rfl, h4, h7, h8, h21, h22, h23, (rfl.trans (congrArg Value.bool (by rw [hst, hb9]; rfl))), hS, trivial⟩
     ·
      refine region_anyX (C := (fun w => StX [] w0 w (A0 :: rowI (.slice (some ⟨g21, 0, none⟩) (bitsL x).length c21) 3 1 (bitsL x).length ((bitsL x).flatMap Bx.encI) :: rowI (fv) 57 1 (fndP p (pre)).length ((fndP p (pre)).flatMap Bx.encU) :: blk b7 [fv] 53 :: blk b4 [.func (.func g) #[] cl.toArray] 110 :: (L9 ++ M)))) mixed 0 10 (by kernel_rfl) rfl hS (fun w hS => (by refine hS.sub ?_; repeat first | exact List.Sublist.refl _ | exact List.nil_sublist _ | apply List.Sublist.cons_cons | apply List.Sublist.cons)) ?_
      clear hS; intro w hS
      refine hnil ?_
      refine f_step 0 (by kernel_rfl) rfl (fun _ _ _ _ h => False.elim h) (by refine hS.sub ?_; repeat first | exact List.Sublist.refl _ | exact List.nil_sublist _ | apply List.Sublist.cons_cons | apply List.Sublist.cons) (fun w hS => (yMove h9)) ?_
      refine f_step 1 (by kernel_rfl) rfl (fun _ _ _ _ h => False.elim h) (by refine hS.sub ?_; repeat first | exact List.Sublist.refl _ | exact List.nil_sublist _ | apply List.Sublist.cons_cons | apply List.Sublist.cons) (fun w hS => (yMove rfl)) ?_
      refine f_go 2 (by kernel_rfl) rfl rfl rfl (fun _ _ _ _ h => False.elim h) (by refine hS.sub ?_; repeat first | exact List.Sublist.refl _ | exact List.nil_sublist _ | apply List.Sublist.cons_cons | apply List.Sublist.cons) (congrArg Value.bool (by simpa using hb9)) (fun w hS => (yLdB h4 Tryz.isAgg110 (hS.at _) rfl)) ?_
      refine f_go 3 (by kernel_rfl) rfl rfl rfl (fun _ _ _ _ h => False.elim h) (by refine hS.sub ?_; repeat first | exact List.Sublist.refl _ | exact List.nil_sublist _ | apply List.Sublist.cons_cons | apply List.Sublist.cons) (congrArg Value.bool (by simpa using hb9)) (fun w hS => (yMove h8)) ?_
      refine f_go 4 (by kernel_rfl) rfl rfl rfl (fun _ _ _ _ h => False.elim h) (by refine hS.sub ?_; repeat first | exact List.Sublist.refl _ | exact List.nil_sublist _ | apply List.Sublist.cons_cons | apply List.Sublist.cons) (congrArg Value.bool (by simpa using hb9)) (fun w hS => (yMove rfl)) ?_
      show wpA _ _ _ _ _ _ _ _ _ _
      refine a_step (i := 5) (is := []) (by kernel_rfl) ⟨?_, trivial⟩
      refine ⟨_, rfl, ?_⟩
      refine ungo rfl rfl (congrArg Value.bool (by simpa using hb9)) ?_
      refine scall Tryz.call29 (.cons rfl (.cons rfl .nil)) (c_withI (by decide) (by omega)) ?_
      rintro _ w ⟨rfl, hE⟩; replace hS := hS.step hE; clear hE
      refine nil ?_
      refine ⟨fun _ => (by refine hS.sub ?_; repeat first | exact List.Sublist.refl _ | exact List.nil_sublist _ | apply List.Sublist.cons_cons | apply List.Sublist.cons), ?_⟩
      show wpA _ _ _ _ _ _ _ _ _ _
      refine f_go 6 (by kernel_rfl) rfl rfl rfl (fun _ _ _ _ h => False.elim h) (by refine hS.sub ?_; repeat first | exact List.Sublist.refl _ | exact List.nil_sublist _ | apply List.Sublist.cons_cons | apply List.Sublist.cons) (congrArg Value.bool (by simpa using hb9)) (fun w hS => (yDif64 rfl rfl)) ?_
      show wpA _ _ _ _ _ _ _ _ _ _
      refine a_step (i := 7) (is := []) (by kernel_rfl) ⟨?_, trivial⟩
      refine ⟨_, rfl, ?_⟩
      refine ungo rfl rfl (congrArg Value.bool (by simpa using hb9)) ?_
      refine scallf rfl eg (.cons rfl .nil) (hp _ _ _ (dif_lt ..) hS) ?_
      rintro _ w ⟨rfl, hS⟩
      refine nil ?_
      refine ⟨fun _ => (by refine hS.sub ?_; repeat first | exact List.Sublist.refl _ | exact List.nil_sublist _ | apply List.Sublist.cons_cons | apply List.Sublist.cons), ?_⟩
      show wpA _ _ _ _ _ _ _ _ _ _
      refine f_step 8 (by kernel_rfl) rfl (fun _ _ _ _ h => False.elim h) (by refine hS.sub ?_; repeat first | exact List.Sublist.refl _ | exact List.nil_sublist _ | apply List.Sublist.cons_cons | apply List.Sublist.cons) (fun w hS => (yPick (B := false) (rfl.trans (congrArg Value.bool (by simpa using hb9))) (fun h => nomatch h) (fun _ => rfl))) ?_
      refine f_step 9 (by kernel_rfl) rfl (fun _ _ _ _ h => False.elim h) (by refine hS.sub ?_; repeat first | exact List.Sublist.refl _ | exact List.nil_sublist _ | apply List.Sublist.cons_cons | apply List.Sublist.cons) (fun w hS => (yAsg rfl)) ?_
      refine a_end (by kernel_rfl) ?_
      exact ⟨_, rfl, h4, h7, h8, h21, h22, h23, (rfl.trans (congrArg Value.bool (by rw [hst, show lesP p x ((bitsL x).take k) = false by simpa using hb9]; rfl))), hS, trivial⟩
    ·
     clear hS; rintro f w ⟨h4, h7, h8, h21, h22, h23, h9, hS, -⟩
     refine regionX rfl ?_
     refine sv (yAdd h23 rfl ⟨by omega, by omega⟩) ?_
     refine sv (yMove rfl) ?_
     refine nil ?_
     exact ⟨_, _, rfl, ⟨k + 1, h4, h7, h8, h21, h22, rfl, h9, hS, (by omega), rfl⟩, by omega⟩
   ·
    simp only [BS, ne_eq] at c24
    obtain rfl : k = (bitsL x).length := by omega
    rw [List.take_length] at h9
    refine exitX ?_
    show Code.wpIn _ _ _ _ _ _ _
    refine seqX ?_
    refine regionX rfl ?_
    refine sv (yMove h9) ?_
    refine sv (yNot rfl) ?_
    refine nil ?_
    show Code.wpIn _ _ _ _ _ _ _
    refine condX rfl (fun c38 => ?_) (fun c38 => ?_)
    ·
     have hkx : keepP p x = true := hkk.trans c38
     rw [fnd_yes hkx, List.length_append, List.length_singleton] at hfx
     refine regionX rfl ?_
     refine sv (yLdB h7 Tryz.isAgg53 (hS.at _) rfl) ?_
     refine sv (yMove h8) ?_
     refine sbslice hS Tryz.underlying53 Tryz.sizeOf57 rfl Tryz.zeroValue57 rfl (.cons rfl rfl .nil) rfl ?_; clear hS; intro b41 w hS
     refine sapp (bytes := 8) (size := 1) (v := fv) (m := 1) hS rfl rfl Tryz.underlying53 ti57 rfl rfl rfl rfl (by decide) (blk_cells (hS.at _)) rfl rfl (by omega) (by omega) ?_; clear hS; intro v42 w hS
     obtain ⟨gr, capr, rfl, -⟩ := row_some (hS.row v42) (Nat.succ_pos _)
     refine sst hS h7 rfl Tryz.sizeOf53 rfl rfl rfl rfl ?_; clear hS; intro w hS
     refine nil ?_
     have hSf := hS
     exact ⟨_, ⟨rfl, _, rfl⟩, (by rw [fnd_yes hkx, List.flatMap_append, List.length_append]; exact hSf.sub (.cons _ (.cons_cons _ (.cons _ (List.Sublist.refl _)))))⟩
    ·
     have hkx : keepP p x = false := hkk.trans c38
     refine skipX ?_
     exact ⟨_, ⟨rfl, fv, rfl⟩, (by rw [fnd_no hkx]; exact hS.sub (.cons_cons _ (.cons _ (List.Sublist.refl _))))⟩
 ·
  clear hS
  intro D w L hcb hS
  obtain ⟨-, fv, rfl⟩ := hcb
  replace hS : StX [] w0 w (obj D (.deferred (some [])) :: A0 :: rowI (fv) 57 1 (fndP p (subL all)).length ((fndP p (subL all)).flatMap Bx.encU) :: blk b7 [fv] 53 :: blk b4 [.func (.func g) #[] cl.toArray] 110 :: L9) := hS
  obtain ⟨a45, c45, rfl⟩ := row_shape (hS.row fv)
  obtain ⟨zs, hzs⟩ : ∃ zs, zs = toI (fndP p (subL all)) := ⟨_, rfl⟩
  have hzl : (fndP p (subL all)).length = zs.length := by rw [hzs]; simp [toI]
  have hze : (fndP p (subL all)).flatMap Bx.encU = zs.flatMap encW := by rw [hzs]; exact (encW_to _).symm
  rw [hze, hzl] at hS
  rw [hzl] at hfl
  have hpl : sortV cmpT zs = leaP p all := by rw [hzs]; rfl
  have hll : (leaP p all).length = zs.length := (leaP_len p all).trans hzl
  have hzm : ∀ y ∈ zs, ∃ a : Nat, y = (a : Int) ∧ a < 18446744073709551616 := fun y hy => by
   rw [hzs] at hy
   obtain ⟨a, ha, rfl⟩ := List.mem_map.1 hy
   have := subL_le (List.mem_filter.1 ha).1
   exact ⟨a, rfl, by omega⟩
  show Code.wpIn _ _ _ _ _ _ _
  refine seqX ?_
  refine regionX rfl ?_
  refine sv (yLdB rfl Tryz.isAgg53 (hS.at _) rfl) ?_
  refine scall Tryz.call59 (.cons rfl (.cons rfl .nil)) (c_SortSets (c := cmpT) (l := zs) (g := 60) (cl := []) (hS.row (.slice a45 zs.length c45)) Tryz.call60 (fun x y w hx hy _ => by obtain ⟨a, rfl, ha⟩ := hzm x hx; obtain ⟨b, rfl, hb⟩ := hzm y hy; exact c_cmpS ha hb) hfl) ?_
  rintro _ w ⟨rfl, hM⟩
  replace hS := hS.app (v := .slice a45 zs.length c45) (v' := .slice a45 zs.length c45) (hM.row _) hM.grown (.inl rfl)
  clear hM
  rw [hpl] at hS
  refine nil ?_
  show Code.wpIn _ _ _ _ _ _ _
  refine seqX ?_
  refine seqX ?_
  refine regionX rfl ?_
  refine sv (yLdB rfl Tryz.isAgg53 (hS.at _) rfl) ?_
  refine sv (yLen rfl Tryz.underlying53) ?_
  refine sv (yMove rfl) ?_
  refine nil ?_
  show Code.wpIn _ _ _ _ _ _ _
  refine blockX ?_
  refine loopX (fun f w zz => ∃ (k : Nat) (rv : Value) (us : List Value) (its : List Bx.Item), f 2 = .func (.func 36) #[] #[] ∧ f 6 = rv ∧ f 45 = .slice a45 zs.length c45 ∧ f 46 = .int .i64 (zs.length : Int) ∧ f 47 = .int .i64 (k : Int) ∧ StX [] w0 w (rowI rv 26 1 us.length us :: packI its :: obj D (.deferred (some [])) :: A0 :: rowI (.slice a45 zs.length c45) 57 1 zs.length ((leaP p all).flatMap encW) :: blk b7 [.slice a45 zs.length c45] 53 :: blk b4 [.func (.func g) #[] cl.toArray] 110 :: L9) ∧ (k ≤ zs.length) ∧ (us.length = k) ∧ (∀ w2 : World, (∀ it ∈ its, it.ok w2) → SlI w2 us ((leaQ p all).take k)) ∧ zz = zs.length - k) _ ⟨_, rfl, 0, _, [], [], rfl, rfl, rfl, rfl, rfl, ((StX.pack (M := []) hS).nilrow 26 1), (Nat.zero_le _), (rfl), (fun w2 _ => SlI.nil w2), rfl⟩ ?_
  clear hS
  rintro f w _ ⟨k, rv, us, its, h2, h6, h45, h46, h47, hS, hk, huq, hQ, rfl⟩
  refine seqX ?_
  refine regionX rfl ?_
  refine sv (yLss h47 h46) ?_
  refine nil ?_
  show Code.wpIn _ _ _ _ _ _ _
  refine seqX ?_
  refine condX rfl (fun c48 => ?_) (fun c48 => ?_)
  ·
   simp only [BS, ne_eq] at c48
   obtain ⟨y, hy, hd⟩ := drop_of (l := leaP p all) (k := k) (by omega)
   obtain ⟨g45, rfl, -⟩ := row_get (hS.row (.slice a45 zs.length c45)) (by omega)
   obtain ⟨n, rfl, hnl⟩ := leaP_mem (List.mem_of_getElem? hy)
   refine skipX ?_
   show Code.wpIn _ _ _ _ _ _ _
   refine seqX ?_
   refine blockX ?_
   refine seqX ?_
   refine regionX rfl ?_
   refine sv (yIx0 (m := k) h45 h47 Tryz.runUnderlying53 Tryz.sizeOf57 (by omega)) ?_
   refine sv (yLd rfl Tryz.isAgg57 ((flat_cells0 (enc := encW) encW_len (row_at (hS.row (.slice (some ⟨g45, 0, none⟩) zs.length c45)) rfl (by omega)) hy).one)) ?_
   refine sv (yAsg rfl) ?_
   refine nil ?_
   show Code.wpIn _ _ _ _ _ _ _
   refine regionX rfl ?_
   refine sv (yMove h6) ?_
   refine sv (yMove h2) ?_
   refine sv (yMove rfl) ?_
   refine scallf rfl Tryz.call36 (.cons rfl .nil) (c_list (a := n) (by omega)) ?_
   rintro v54 w hM; replace hS := hS.call1 hM; clear hM
   obtain ⟨a54, c54, rfl⟩ := row_shape (hS.row v54)
   refine sbslice hS Tryz.underlying69 Tryz.sizeOf26 rfl Tryz.zeroValue26 rfl (.cons rfl rfl .nil) rfl ?_; clear hS; intro b55 w hS
   refine sapp (bytes := 24) (size := 1) (v := rv) (m := 1) hS rfl rfl Tryz.underlying69 ti26 rfl rfl rfl rfl (by decide) (blk_cells (hS.at _)) rfl rfl (by omega) (by omega) ?_; clear hS; intro v56 w hS
   refine sv (yAsg rfl) ?_
   refine nil ?_
   show Code.wpIn _ _ _ _ _ _ _
   refine regionX rfl ?_
   refine sv (yAdd h47 rfl ⟨by omega, by omega⟩) ?_
   refine sv (yMove rfl) ?_
   refine nil ?_
   exact ⟨_, _, rfl, ⟨k + 1, _, us ++ [.slice a54 (bitsL n).length c54], its ++ [rowI (.slice a54 (bitsL n).length c54) 3 1 (bitsL n).length ((bitsL n).flatMap Bx.encI)], h2, rfl, h45, h46, rfl, (by rw [List.length_append]; exact lea_push hS), (by omega), (by rw [List.length_append, huq]; rfl), (fun w2 h2 => by rw [lea_step hy]; exact (hQ w2 fun it hi => h2 it (List.mem_append_left _ hi)).snoc (bits_sl (h2 _ (List.mem_append_right _ (List.mem_singleton.2 rfl))))), rfl⟩, by omega⟩
  ·
   simp only [BS, ne_eq] at c48
   obtain rfl : k = zs.length := by omega
   have hfin : (leaQ p all).take zs.length = leaQ p all := List.take_of_length_le (by rw [leaQ, List.length_map, hll]; exact Nat.le_refl _)
   rw [hfin] at hQ
   replace hS := StX.front (A := [_, _]) hS
   refine exitX ?_
   show Code.wpIn _ _ _ _ _ _ _
   refine seqX ?_
   refine regionX rfl ?_
   refine sv (yMove h6) ?_
   refine sv (yAsg rfl) ?_
   refine nil ?_
   show Code.wpIn _ _ _ _ _ _ _
   refine wpIn_ret ?_
   refine leafD hS (fun w hS => (res1 rfl rfl)) (fun w hS => ?_)
   exact ⟨us, its, hQ, (show StX [] w0 w (_ :: _ :: _ :: _ :: _ :: _ :: _ :: L9) from hS).sub (.cons _ (.cons_cons _ (.cons_cons _ (.cons_cons _ (.cons _ (.cons _ (.cons _ (List.Sublist.refl _))))))))⟩
 ·
  intro D w L c pre hcb hS; exact absurd hcb.1 (by simp)
/-- barrage/failure.Causes closure 1 -/
theorem c_Cau1 {l : List Nod} {nv rv : Value} {f0 m : Nat} {b6 b3 s : Nat} {node : Int} {w0 w : World} {L9 : List Bx.Item} (hn : Sl w0 5 RNod nv l) (hok : FaOk l) (hS : StX [] w0 w (treR rv l :: treB f0 nv rv m l :: memoI m l :: blk b6 [.pointer (some ⟨f0, 0, none⟩)] 52 :: blk b3 [.int .i64 node] 3 :: L9)) (hs : s < 18446744073709551616) (hk : 0 ≤ node ∧ node < 64) : CE Tryz.prog 35 #[.int .u64 ((s : Nat) : Int), .pointer (some ⟨b6, 0, none⟩), .pointer (some ⟨b3, 0, none⟩)] w (fun u w' => u = .bool ((effF l s).testBit node.toNat) ∧ StX [] w0 w' (treR rv l :: treB f0 nv rv m l :: memoI m l :: blk b6 [.pointer (some ⟨f0, 0, none⟩)] 52 :: blk b3 [.int .i64 node] 3 :: L9)) := by
 have hln := hok.len
 refine enter Tryz.func35 rfl Tryz.ntmps35 rfl ?_
 skip
 refine seq ?_
 refine region ?_
 refine sv (yAsg rfl) ?_
 refine nil ?_
 show Code.wp _ _ _ _ _
 refine seq ?_
 refine region_mix (fun w => StX [] w0 w (treR rv l :: treB f0 nv rv m l :: memoI m l :: blk b6 [.pointer (some ⟨f0, 0, none⟩)] 52 :: blk b3 [.int .i64 node] 3 :: L9)) 6 mixed hS ?_
 clear hS; intro w hS
 refine f_step 0 (by kernel_rfl) rfl (fun c a a' w h => by obtain ⟨_, v, hv, _⟩ := h; cases hv) (by refine hS.sub ?_; repeat first | exact List.Sublist.refl _ | exact List.nil_sublist _ | apply List.Sublist.cons_cons | apply List.Sublist.cons) (fun w hS => (yLdB rfl Tryz.isAgg52 (hS.at _) rfl)) ?_
 refine f_step 1 (by kernel_rfl) rfl (fun c a a' w h => by obtain ⟨_, v, hv, _⟩ := h; cases hv) (by refine hS.sub ?_; repeat first | exact List.Sublist.refl _ | exact List.nil_sublist _ | apply List.Sublist.cons_cons | apply List.Sublist.cons) (fun w hS => (yMove rfl)) ?_
 refine f_step 3 (by kernel_rfl) rfl (fun c a a' w h => by obtain ⟨_, v, hv, _⟩ := h; cases hv) (by refine hS.sub ?_; repeat first | exact List.Sublist.refl _ | exact List.nil_sublist _ | apply List.Sublist.cons_cons | apply List.Sublist.cons) (fun w hS => (yLdB rfl Tryz.isAgg3 (hS.at _) rfl)) ?_
 show wpA _ _ _ _ _ _ _ _ _ _
 refine a_step (i := 2) (is := []) (by kernel_rfl) ⟨?_, trivial⟩
 refine ⟨_, rfl, ?_⟩
 refine scall Tryz.call30 (.cons rfl (.cons rfl .nil)) (c_effects hn hok hS hs) ?_
 rintro _ w ⟨rfl, hS⟩
 refine nil ?_
 refine ⟨fun _ => (by refine hS.sub ?_; repeat first | exact List.Sublist.refl _ | exact List.nil_sublist _ | apply List.Sublist.cons_cons | apply List.Sublist.cons), ?_⟩
 show wpA _ _ _ _ _ _ _ _ _ _
 show wpA _ _ _ _ _ _ _ _ _ _
 refine a_step (i := 4) (is := []) (by kernel_rfl) ⟨?_, trivial⟩
 refine ⟨_, rfl, ?_⟩
 refine scall Tryz.call13 (.cons rfl (.cons rfl .nil)) (c_hasI (effS_lt hs (by omega)) hk) ?_
 rintro _ w ⟨rfl, hE⟩; replace hS := hS.step hE; clear hE
 refine nil ?_
 refine ⟨fun _ => (by refine hS.sub ?_; repeat first | exact List.Sublist.refl _ | exact List.nil_sublist _ | apply List.Sublist.cons_cons | apply List.Sublist.cons), ?_⟩
 show wpA _ _ _ _ _ _ _ _ _ _
 refine f_step 5 (by kernel_rfl) rfl (fun c a a' w h => by obtain ⟨_, v, hv, _⟩ := h; cases hv) (by refine hS.sub ?_; repeat first | exact List.Sublist.refl _ | exact List.nil_sublist _ | apply List.Sublist.cons_cons | apply List.Sublist.cons) (fun w hS => (yAsg rfl)) ?_
 refine a_end (by kernel_rfl) ?_
 show Code.wp _ _ _ _ _
 refine wp_ret ?_
 refine retQ (res1 rfl rfl) ?_
 exact ⟨rfl, hS⟩
theorem prd_cau {l : List Nod} {nv rv : Value} {f0 m b6 b3 : Nat} {node : Int} {w0 : World} (hn : Sl w0 5 RNod nv l) (hok : FaOk l) (hk : 0 ≤ node ∧ node < 64) : Prd Tryz.prog 35 [.pointer (some ⟨b6, 0, none⟩), .pointer (some ⟨b3, 0, none⟩)] w0 (packI [treR rv l, treB f0 nv rv m l, memoI m l, blk b6 [.pointer (some ⟨f0, 0, none⟩)] 52, blk b3 [.int .i64 node] 3]) (fun s => (effF l s).testBit node.toNat) := fun s w M hs hS => by
 refine (c_Cau1 hn hok (L9 := M) hS.unpack hs hk).mono ?_
 rintro u w' ⟨rfl, hS⟩
 exact ⟨rfl, StX.pack (M := [_, _, _, _, _]) hS⟩
/-- barrage/failure.Causes -/
theorem c_Causes {l : List Nod} {nv : Value} {node : Int} {w0 : World} (hn : Sl w0 5 RNod nv l) (hz : abE l node [] = 0) (hfl : (fndP (fun s => (effF l s).testBit node.toNat) (subL (basF l))).length ≤ 12) : CE Tryz.prog 16 #[.agg [nv].toArray, .int .i64 node] w0 (fun u w' => ∃ v us its, u = .tuple #[v, .int .i64 0] ∧ (∀ w2 : World, (∀ it ∈ its, it.ok w2) → SlI w2 us (leaQ (fun s => (effF l s).testBit node.toNat) (basF l))) ∧ St w0 w' [rowI v 26 1 us.length us, packI its]) := by
 obtain ⟨hc0, hnb, -⟩ := ab_ok hz
 have hok := fa_ok hc0
 have hln := hok.len
 have hbl : basF l < 18446744073709551616 := basS_lt (by omega)
 refine enter Tryz.func16 rfl Tryz.ntmps16 rfl ?_
 have hS := St.start w0
 refine seq ?_
 refine region ?_
 refine sbox hS rfl rfl ?_; clear hS; intro b2 w hS
 refine sbox hS rfl rfl ?_; clear hS; intro b3 w hS
 refine sv (yAsg rfl) ?_
 refine sv (yAsg rfl) ?_
 refine nil ?_
 show Code.wp _ _ _ _ _
 refine seq ?_
 refine region ?_
 refine sv (yLdBA rfl Tryz.isAgg24 Tryz.sizeOf24 (hS.at _) rfl rfl) ?_
 refine sv (yLdB rfl Tryz.isAgg3 (hS.at _) rfl) ?_
 refine scall Tryz.call9 (.cons rfl (.cons rfl (.cons rfl .nil))) (c_about (ls := []) (node := node) (hn.ext RNod.stays hS.ext) ⟨none, 0, rfl, by simp, by simp, fun i h => (nomatch h)⟩ (by simp)) ?_
 rintro _ w (⟨hz1, -, -⟩ | ⟨-, f0, rv, m, sq, rfl, hM⟩)
 ·
  exact absurd hz hz1
 replace hS : StX [] w0 w (treR rv l :: treB f0 nv rv m l :: memoI m l :: blk b3 [.int .i64 node] 3 :: blk b2 [nv] 24 :: ([] : List Bx.Item)) := (hS.call hM).sub (.cons _ (List.Sublist.refl _)); clear hM
 refine sv (yMove rfl) ?_
 refine sv (yExt rfl rfl) ?_
 refine sv (yExt rfl rfl) ?_
 refine sv (yExt rfl rfl) ?_
 refine salloc hS Tryz.zeroValue52 rfl ?_; clear hS; intro b6 w hS
 refine sst hS rfl rfl Tryz.sizeOf52 rfl rfl rfl rfl ?_; clear hS; intro w hS
 refine sv (yAsg rfl) ?_
 refine sv (yAsg rfl) ?_
 refine nil ?_
 show Code.wp _ _ _ _ _
 refine seq ?_
 refine seq ?_
 refine region ?_
 refine sv (yMove rfl) ?_
 refine sv (yNeq rfl rfl) ?_
 refine nil ?_
 show Code.wp _ _ _ _ _
 refine cond rfl (fun c17 => ?_) (fun c17 => ?_)
 ·
  exact absurd c17 (by decide)
 ·
  refine skip ?_
  show Code.wp _ _ _ _ _
  refine seq ?_
  refine region ?_
  refine sv (yLdB rfl Tryz.isAgg52 (hS.at _) rfl) ?_
  refine sv (yNil rfl) ?_
  refine sv (fa65_2 rfl) ?_
  refine sv (yLdB rfl Tryz.isAgg57 (hS.at _) rfl) ?_
  refine scall Tryz.call34 (.cons rfl .nil) c_subsets ?_
  rintro _ w ⟨bs, rfl, hM⟩; replace hS := (hS.call hM).sub (.cons_cons _ (.cons_cons _ (List.Sublist.refl _))); clear hM
  refine sv (yFn (.cons rfl (.cons rfl .nil))) ?_
  replace hS := hS.perm ((List.perm_middle (l₁ := [treR rv l, treB f0 nv rv m l, memoI m l])).symm.cons _)
  replace hS := (StX.pack (M := [treR rv l, treB f0 nv rv m l, memoI m l, blk b6 [.pointer (some ⟨f0, 0, none⟩)] 52, blk b3 [.int .i64 node] 3]) (hS.perm (List.perm_middle (l₁ := [treR rv l, treB f0 nv rv m l, memoI m l, blk b6 [.pointer (some ⟨f0, 0, none⟩)] 52, blk b3 [.int .i64 node] 3])).symm)).perm (.swap _ _ _)
  refine scall Tryz.call33 (.cons rfl (.cons rfl (.cons rfl .nil))) (c_least (p := (fun s => (effF l s).testBit node.toNat)) (A0 := packI [treR rv l, treB f0 nv rv m l, memoI m l, blk b6 [.pointer (some ⟨f0, 0, none⟩)] 52, blk b3 [.int .i64 node] 3]) (L9 := [blk b2 [nv] 24]) hbl (prd_cau hn hok ⟨by omega, by omega⟩) Tryz.call35 hfl hS) ?_
  rintro v25 w ⟨us, its, hQ, hS⟩
  refine sv (yAsg rfl) ?_
  refine sv (yAsg rfl) ?_
  refine nil ?_
  show Code.wp _ _ _ _ _
  refine wp_ret ?_
  refine retQ (res2 rfl rfl rfl) ?_
  exact ⟨v25, us, its, rfl, hQ, hS.sub (.cons_cons _ (.cons_cons _ (List.nil_sublist _)))⟩
end Go.Proofs.YtbbpiebhnbhbiaaGreat
namespace Bx
open Go Go.RowKit
section
variable (l : List Nod) (es : Nat)
def lefT (a : List Int) (z : List Int) : List Int := (z.filter fun n => es.testBit n.toNat).map fun n => a.getD n.toNat 0
def lefN (a : List Int) (k : Nat) : List Int := if needF (nd l k) ≤ ((lefT es a (nd l k).inp).length : Int) then a.set k ((sortI (lefT es a (nd l k).inp)).getD (needF (nd l k) - 1).toNat 0 + (nd l k).hold) else a
def lefS : Nat → List Int
 | 0 => List.replicate l.length 0
 | k + 1 => lefN l es (lefS k) k
end
def lefF (l : List Nod) (z : List Int) (node : Int) : Int := (lefS l (effF l (setV l z)) l.length).getD node.toNat 0
variable {l : List Nod} {es : Nat}
theorem lefT_yes {a z : List Int} {j : Nat} {x : Int} (h : z[j]? = some x) (c : es.testBit x.toNat = true) : lefT es a (z.take (j + 1)) = lefT es a (z.take j) ++ [a.getD x.toNat 0] := by
 unfold lefT; rw [take_snoc h, List.filter_append, List.map_append]; simp [List.filter, c]
theorem lefT_no {a z : List Int} {j : Nat} {x : Int} (h : z[j]? = some x) (c : es.testBit x.toNat = false) : lefT es a (z.take (j + 1)) = lefT es a (z.take j) := by
 unfold lefT; rw [take_snoc h, List.filter_append, List.map_append]; simp [List.filter, c]
theorem lefT_len (es : Nat) (a z : List Int) : (lefT es a z).length ≤ z.length := by unfold lefT; rw [List.length_map]; exact List.length_filter_le _ _
theorem lefS_len : ∀ k, (lefS l es k).length = l.length
  | 0 => by simp [lefS]
  | k + 1 => by
    rw [lefS, lefN]
    split
    · rw [List.length_set]; exact lefS_len k
    · exact lefS_len k
theorem getD_mem {a : List Int} {j : Nat} : a.getD j 0 ∈ a ∨ a.getD j 0 = 0 := by
 by_cases h : j < a.length
 ·
  left; rw [show a.getD j 0 = a[j] by simp [List.getD, h]]; exact List.getElem_mem h
 ·
  right; simp [List.getD, h]
theorem mem_set_or {a : List Int} {k : Nat} {v x : Int} (h : x ∈ a.set k v) : x ∈ a ∨ x = v := by
 obtain ⟨i, hi⟩ := List.mem_iff_getElem?.1 h
 rw [List.getElem?_set] at hi
 split at hi
 ·
  split at hi
  ·
   right; cases hi; rfl
  ·
   cases hi
 ·
  exact .inl (List.mem_iff_getElem?.2 ⟨i, hi⟩)
theorem lefS_bd (hok : FaOk l) : ∀ {k : Nat}, k ≤ l.length → ∀ x ∈ lefS l es k, 0 ≤ x ∧ x ≤ 100 * (k : Int)
  | 0, _, x, hx => by
    rw [lefS] at hx
    obtain ⟨-, rfl⟩ := List.mem_replicate.1 hx
    exact ⟨Int.le_refl _, by decide⟩
  | k + 1, h, x, hx => by
    have ih := lefS_bd hok (k := k) (by omega)
    have hh := (hok.nods k (by omega)).hold
    rw [lefS, lefN] at hx
    split at hx
    · rcases mem_set_or hx with h1 | rfl
      · have := ih x h1; omega
      · have : ∀ y ∈ sortI (lefT es (lefS l es k) (nd l k).inp), 0 ≤ y ∧ y ≤ 100 * (k : Int) := fun y hy => by
          have h2 := (sortI_perm _).mem_iff.1 hy
          unfold lefT at h2
          obtain ⟨n, -, rfl⟩ := List.mem_map.1 h2
          rcases getD_mem (a := lefS l es k) (j := n.toNat) with h3 | h3
          · exact ih _ h3
          · rw [h3]; omega
        rcases getD_mem (a := sortI (lefT es (lefS l es k) (nd l k).inp)) (j := (needF (nd l k) - 1).toNat) with h3 | h3
        · have := this _ h3; omega
        · rw [h3]; omega
    · have := ih x hx; omega
theorem lef_yes {k : Nat} (h : needF (nd l k) ≤ ((lefT es (lefS l es k) (nd l k).inp).length : Int)) : lefS l es (k + 1) = (lefS l es k).set k ((sortI (lefT es (lefS l es k) (nd l k).inp)).getD (needF (nd l k) - 1).toNat 0 + (nd l k).hold) := by rw [lefS, lefN, if_pos h]
theorem lef_no {k : Nat} (h : ¬ needF (nd l k) ≤ ((lefT es (lefS l es k) (nd l k).inp).length : Int)) : lefS l es (k + 1) = lefS l es k := by rw [lefS, lefN, if_neg h]
theorem rep_enc (m : Nat) : (List.replicate m [Value.int .i64 0]).flatten = (List.replicate m (0 : Int)).flatMap encI := by
 rw [List.flatMap_def, List.map_replicate]; rfl
theorem getD_get {a : List Int} {j : Nat} (h : j < a.length) : a[j]? = some (a.getD j 0) := by simp [List.getD, h]
theorem NodOk.inpl {i : Nat} {x : Nod} (h : NodOk i x) : x.inp.length ≤ 10 := by
 by_cases e : x.kind = 1
 ·
  rw [h.bas e]; simp
 ·
  exact (h.inp e).2
def savR (s : Nat) (i n : Int) (k : Nat) : List FSp := if s.testBit k = true then [⟨(k : Int), 0, if (k : Int) = i then n else 1073741824⟩] else []
def savB (l : List Nod) (s : Nat) (node n i : Int) : Bool := ((runF l (savR s i n)).getD node.toNat []).length == 0
def savL (l : List Nod) (z : List Int) (node n : Int) : List Int := (bitsL (setV l z)).filter (savB l (setV l z) node n)
theorem savR_ok {s : Nat} {i n : Int} (hn : 0 ≤ n ∧ n ≤ 400) : OwnOk 1073741824 (savR s i n) := fun k x hx => by
 unfold savR at hx
 split at hx
 ·
  obtain rfl := List.mem_singleton.1 hx
  refine ⟨Int.le_refl _, ?_⟩
  show (if (k : Int) = i then n else 1073741824) ≤ _
  split <;> omega
 ·
  cases hx
theorem savR_len {s : Nat} {i n : Int} (k : Nat) : (savR s i n k).length ≤ 60 := by unfold savR; split <;> simp
theorem savR_sp {s : Nat} {i n : Int} (hn : 0 ≤ n ∧ n ≤ 400) (hs : s < 18446744073709551616) (k : Nat) : ∀ x, x ∈ savR s i n k → SpOk x := fun x hx => by
 unfold savR at hx
 split at hx
 next h =>
  obtain rfl := List.mem_singleton.1 hx
  have hk : k < 64 := by
   rcases Nat.lt_or_ge k 64 with h1 | h1
   ·
    exact h1
   ·
    rw [Nat.testBit_lt_two_pow (Nat.lt_of_lt_of_le hs (Nat.pow_le_pow_right (by decide) h1 : 2 ^ 64 ≤ 2 ^ k))] at h; cases h
  refine ⟨⟨?_, ?_⟩, ⟨?_, ?_⟩, ⟨?_, ?_⟩⟩ <;> simp only <;> (try split) <;> omega
 ·
  cases hx
theorem sav_yes {l : List Nod} {s k : Nat} {node n : Int} {z : List Int} {i : Int} (h : z[k]? = some i) (c : savB l s node n i = true) : (z.take (k + 1)).filter (savB l s node n) = (z.take k).filter (savB l s node n) ++ [i] := by
 rw [take_snoc h, List.filter_append]; simp [List.filter, c]
theorem sav_no {l : List Nod} {s k : Nat} {node n : Int} {z : List Int} {i : Int} (h : z[k]? = some i) (c : savB l s node n i = false) : (z.take (k + 1)).filter (savB l s node n) = (z.take k).filter (savB l s node n) := by
 rw [take_snoc h, List.filter_append]; simp [List.filter, c]
end Bx
namespace Go.Proofs.YtbbpiebhnbhbiaaGreat
open Go Bx
/-- barrage/failure.Left -/
theorem c_Left {l : List Nod} {nv v1 : Value} {z1 : List Int} {node : Int} {w0 : World} (hn : Sl w0 5 RNod nv l) (hz1 : Sl w0 1 RInt v1 z1) (hz : abE l node [z1] = 0) (hnf : (effF l (setV l z1)).testBit node.toNat = true) : CE Tryz.prog 18 #[.agg [nv].toArray, v1, .int .i64 node] w0 (fun u w' => u = .tuple #[.int .i64 (lefF l z1 node), .int .i64 0] ∧ Ext w0 w') := by
 obtain ⟨a1, c1, rfl, -⟩ := id hz1
 obtain ⟨an, cn, rfl, -⟩ := id hn
 obtain ⟨hc0, hnb, hse⟩ := ab_ok hz
 have hok := fa_ok hc0
 have hln := hok.len
 refine enter Tryz.func18 rfl Tryz.ntmps18 rfl ?_
 have hS := St.start w0
 refine seq ?_
 refine region ?_
 refine sbox hS rfl rfl ?_; clear hS; intro b3 w hS
 refine sv (yAsg rfl) ?_
 refine sv (yAsg rfl) ?_
 refine nil ?_
 show Code.wp _ _ _ _ _
 refine seq ?_
 refine region ?_
 refine sv (yLdBA rfl Tryz.isAgg24 Tryz.sizeOf24 (hS.at _) rfl rfl) ?_
 refine sv (yMove rfl) ?_
 refine sv (yMove rfl) ?_
 refine sbslice hS Tryz.underlying69 Tryz.sizeOf26 rfl Tryz.zeroValue26 rfl (.cons rfl rfl .nil) rfl ?_; clear hS; intro b22 w hS
 refine scall Tryz.call9 (.cons rfl (.cons rfl (.cons rfl .nil))) (c_about (ls := [z1]) (node := node) (hn.ext RNod.stays hS.ext) (sl_of_blk (hS.at b22) (css := [[.slice a1 z1.length c1]]) (l := [z1]) rfl ⟨rfl, ⟨_, rfl, hz1.ext RInt.stays hS.ext⟩, trivial⟩ (by simp) rfl) (by simp)) ?_
 rintro _ w (⟨hzz, -, -⟩ | ⟨-, f0, rv, m, sq, rfl, hM⟩)
 ·
  exact absurd hz hzz
 replace hS : StX [] w0 w (rowI (sq) 57 1 [z1].length ((abS l [z1]).flatMap encU) :: treR rv l :: treB f0 (.slice an l.length cn) rv m l :: memoI m l :: blk b22 [.slice a1 z1.length c1] 26 :: blk b3 [(.slice an l.length cn)] 24 :: ([] : List Bx.Item)) := hS.call hM; clear hM
 obtain ⟨gs, cs, rfl, -⟩ := row_some (hS.row sq) (show 0 < [z1].length by simp)
 obtain ⟨ar, cr, rfl⟩ := row_shape (hS.row rv)
 replace hS : StX [] w0 w (treR (.slice ar l.length cr) l :: treB f0 (.slice an l.length cn) (.slice ar l.length cr) m l :: memoI m l :: rowI (.slice (some ⟨gs, 0, none⟩) [z1].length cs) 57 1 [z1].length ((abS l [z1]).flatMap encU) :: blk b22 [.slice a1 z1.length c1] 26 :: blk b3 [(.slice an l.length cn)] 24 :: ([] : List Bx.Item)) := hS.perm (List.perm_append_comm_assoc [_] [_, _, _] _)
 refine sv (yMove rfl) ?_
 refine sv (yExt rfl rfl) ?_
 refine sv (yExt rfl rfl) ?_
 refine sv (yExt rfl rfl) ?_
 refine sv (yAsg rfl) ?_
 refine sv (yAsg rfl) ?_
 refine sv (yAsg rfl) ?_
 refine nil ?_
 show Code.wp _ _ _ _ _
 refine seq ?_
 refine block ?_
 refine seq ?_
 refine region ?_
 refine sv (yMove rfl) ?_
 refine sv (yNeq rfl rfl) ?_
 refine sv (yAsg rfl) ?_
 refine nil ?_
 show Code.wp _ _ _ _ _
 refine cond rfl (fun c27 => ?_) (fun c27 => ?_)
 ·
  exact absurd c27 (by decide)
 ·
  refine seq ?_
  refine region ?_
  refine sv (yMove rfl) ?_
  refine sv (yMove rfl) ?_
  refine sv (yIx0 (m := 0) rfl rfl Tryz.runUnderlying53 Tryz.sizeOf57 (by simp)) ?_
  refine sv (yLd rfl Tryz.isAgg57 ((flat_cells0 (enc := encU) encU_len (row_at (hS.row (.slice (some ⟨gs, 0, none⟩) [z1].length cs)) rfl (by simp)) (show (abS l [z1])[0]? = some (setV l z1) from rfl)).one)) ?_
  refine scall Tryz.call30 (.cons rfl (.cons rfl .nil)) (c_effects hn hok hS (setV_lt (by omega) _)) ?_
  rintro _ w ⟨rfl, hS⟩
  refine sv (yMove rfl) ?_
  refine scall Tryz.call13 (.cons rfl (.cons rfl .nil)) (c_hasI (effS_lt (setV_lt (by omega) _) (by omega)) ⟨by omega, by omega⟩) ?_
  rintro _ w ⟨rfl, hE⟩; replace hS := hS.step hE; clear hE
  refine sv (yNot rfl) ?_
  refine sv (yAsg rfl) ?_
  refine nil ?_
  show Code.wp _ _ _ _ _
  refine cond rfl (fun c31 => ?_) (fun c31 => ?_)
  ·
   exact absurd (show (!(effF l (setV l z1)).testBit node.toNat) = true from c31) (by rw [hnf]; decide)
  ·
   refine skip ?_
   show Code.wp _ _ _ _ _
   refine seq ?_
   refine region ?_
   refine sv (yMove rfl) ?_
   refine sv (yNil rfl) ?_
   refine sv (fa65_1 rfl) ?_
   refine sv (yLdB rfl Tryz.isAgg62 (hS.at _) rfl) ?_
   refine sv (yLen rfl Tryz.underlying62) ?_
   refine smake (bytes := 8) (zs := [.int .i64 0])  hS rfl rfl Tryz.underlying26 ti3 rfl rfl rfl rfl rfl (by omega) (by omega) ?_; clear hS; intro b45 w hS
   rw [rep_enc] at hS
   replace hS := hS.toRow 1 l.length (by rw [flat_len encI_len]; simp) (by omega)
   replace hS : StX [] w0 w (rowI (.slice (some ⟨b45, 0, none⟩) l.length l.length) 3 1 l.length ((lefS l (effF l (setV l z1)) 0).flatMap Bx.encI) :: treR (.slice ar l.length cr) l :: treB f0 (.slice an l.length cn) (.slice ar l.length cr) m l :: memoI m l :: rowI (.slice (some ⟨gs, 0, none⟩) [z1].length cs) 57 1 [z1].length ((abS l [z1]).flatMap encU) :: blk b22 [.slice a1 z1.length c1] 26 :: blk b3 [(.slice an l.length cn)] 24 :: ([] : List Bx.Item)) := hS
   refine sv (yAsg rfl) ?_
   refine nil ?_
   show Code.wp _ _ _ _ _
   refine seq ?_
   refine region ?_
   refine sv (yMove rfl) ?_
   refine sv (yMove rfl) ?_
   refine sv (yIx0 (m := 0) rfl rfl Tryz.runUnderlying53 Tryz.sizeOf57 (by simp)) ?_
   refine sv (yLd rfl Tryz.isAgg57 ((flat_cells0 (enc := encU) encU_len (row_at (hS.row (.slice (some ⟨gs, 0, none⟩) [z1].length cs)) rfl (by simp)) (show (abS l [z1])[0]? = some (setV l z1) from rfl)).one)) ?_
   refine scall Tryz.call30 (.cons rfl (.cons rfl .nil)) (c_effects hn hok (hS.perm (List.perm_middle (l₁ := [_, _, _])).symm) (setV_lt (by omega) _)) ?_
   rintro _ w ⟨rfl, hM⟩; replace hS : StX [] w0 w (rowI (.slice (some ⟨b45, 0, none⟩) l.length l.length) 3 1 l.length ((lefS l (effF l (setV l z1)) 0).flatMap Bx.encI) :: treR (.slice ar l.length cr) l :: treB f0 (.slice an l.length cn) (.slice ar l.length cr) m l :: memoI m l :: rowI (.slice (some ⟨gs, 0, none⟩) [z1].length cs) 57 1 [z1].length ((abS l [z1]).flatMap encU) :: blk b22 [.slice a1 z1.length c1] 26 :: blk b3 [(.slice an l.length cn)] 24 :: ([] : List Bx.Item)) := hM.perm (List.perm_middle (l₁ := [_, _, _])); clear hM
   refine sv (yAsg rfl) ?_
   refine nil ?_
   show Code.wp _ _ _ _ _
   refine seq ?_
   refine seq ?_
   refine region ?_
   refine sv (yMove rfl) ?_
   refine sv (yNil rfl) ?_
   refine sv (fa65_1 rfl) ?_
   refine sv (yLdB rfl Tryz.isAgg62 (hS.at _) rfl) ?_
   refine sv (yLen rfl Tryz.underlying62) ?_
   refine sv (yMove rfl) ?_
   refine nil ?_
   show Code.wp _ _ _ _ _
   refine block ?_
   refine loop (fun f w zz => ∃ (k : Nat), f 2 = .int .i64 node ∧ f 8 = .pointer (some ⟨f0, 0, none⟩) ∧ f 11 = .slice (some ⟨b45, 0, none⟩) l.length l.length ∧ f 12 = .int .u64 (((effF l (setV l z1)) : Nat) : Int) ∧ f 54 = .slice ar l.length cr ∧ f 55 = .int .i64 (l.length : Int) ∧ f 56 = .int .i64 (k : Int) ∧ StX [] w0 w (rowI (.slice (some ⟨b45, 0, none⟩) l.length l.length) 3 1 l.length ((lefS l (effF l (setV l z1)) k).flatMap Bx.encI) :: treR (.slice ar l.length cr) l :: treB f0 (.slice an l.length cn) (.slice ar l.length cr) m l :: memoI m l :: rowI (.slice (some ⟨gs, 0, none⟩) [z1].length cs) 57 1 [z1].length ((abS l [z1]).flatMap encU) :: blk b22 [.slice a1 z1.length c1] 26 :: blk b3 [(.slice an l.length cn)] 24 :: ([] : List Bx.Item)) ∧ (k ≤ l.length) ∧ zz = l.length - k) _ ⟨_, rfl, 0, rfl, rfl, rfl, rfl, rfl, rfl, rfl, hS, (Nat.zero_le _), rfl⟩ ?_
   clear hS
   rintro f w _ ⟨k, h2, h8, h11, h12, h54, h55, h56, hS, hk, rfl⟩
   refine seq ?_
   refine region ?_
   refine sv (yLss h56 h55) ?_
   refine nil ?_
   show Code.wp _ _ _ _ _
   refine seq ?_
   refine cond rfl (fun c57 => ?_) (fun c57 => ?_)
   ·
    simp only [BS, ne_eq] at c57
    obtain ⟨bq, oq, cq, haq, -, hcq, hRq, -⟩ := sl_at hn (nd_get (show k < l.length by omega))
    obtain ⟨iv, rfl, hsz, hin⟩ := hRq
    obtain ⟨ai, ci, rfl, -⟩ := id hin
    have hno := hok.nods k (by omega)
    have hnd := need_bd hok (show k < l.length by omega)
    have hfl := lefS_len (l := l) (es := (effF l (setV l z1))) k
    have hfb := lefS_bd (es := (effF l (setV l z1))) hok hk
    obtain ⟨gr, rfl, -⟩ := row_get (hS.row (.slice ar l.length cr)) (by omega)
    refine skip ?_
    show Code.wp _ _ _ _ _
    refine seqJ (n := 109) (fun f w => f 2 = .int .i64 node ∧ f 8 = .pointer (some ⟨f0, 0, none⟩) ∧ f 11 = .slice (some ⟨b45, 0, none⟩) l.length l.length ∧ f 12 = .int .u64 (((effF l (setV l z1)) : Nat) : Int) ∧ f 54 = .slice (some ⟨gr, 0, none⟩) l.length cr ∧ f 55 = .int .i64 (l.length : Int) ∧ f 56 = .int .i64 (k : Int) ∧ StX [] w0 w (rowI (.slice (some ⟨b45, 0, none⟩) l.length l.length) 3 1 l.length ((lefS l (effF l (setV l z1)) (k + 1)).flatMap Bx.encI) :: treR (.slice (some ⟨gr, 0, none⟩) l.length cr) l :: treB f0 (.slice an l.length cn) (.slice (some ⟨gr, 0, none⟩) l.length cr) m l :: memoI m l :: rowI (.slice (some ⟨gs, 0, none⟩) [z1].length cs) 57 1 [z1].length ((abS l [z1]).flatMap encU) :: blk b22 [.slice a1 z1.length c1] 26 :: blk b3 [(.slice an l.length cn)] 24 :: ([] : List Bx.Item)) ∧ True) ?_ ?_
    ·
     refine block ?_
     refine seq ?_
     refine region ?_
     refine sv (yMove h56) ?_
     refine sv (yIx0 (m := k) h54 h56 Tryz.runUnderlying62 Tryz.sizeOf103 (by omega)) ?_
     refine sv (yLd rfl Tryz.isAgg103 ((flat_cells0 (enc := ruC) ruC_len (row_at (hS.row (.slice (some ⟨gr, 0, none⟩) l.length cr)) rfl (by omega)) (nd_get (show k < l.length by omega))).one)) ?_
     refine sv (yAsg rfl) ?_
     refine sv (yAsg rfl) ?_
     refine nil ?_
     show Code.wp _ _ _ _ _
     refine seq ?_
     refine region ?_
     refine sv (yAsg rfl) ?_
     refine nil ?_
     show Code.wp _ _ _ _ _
     refine seq ?_
     refine seq ?_
     refine region ?_
     refine sv (yMove h8) ?_
     refine sv (yNil rfl) ?_
     refine sv (fa65_0 rfl) ?_
     refine sv (yLdB rfl Tryz.isAgg22 (hS.at _) rfl) ?_
     refine sv (yMove rfl) ?_
     refine sv (yIxa rfl haq rfl Tryz.runUnderlying22 Tryz.sizeOf96 (by omega) (by omega)) ?_
     refine sv (fa96_2 rfl) ?_
     refine sv (yLd rfl Tryz.isAgg26 ((hcq.ext hS.ext).at (j := 2) rfl)) ?_
     refine sv (yLen rfl Tryz.underlying26) ?_
     refine sv (yMove rfl) ?_
     refine nil ?_
     show Code.wp _ _ _ _ _
     refine block ?_
     refine loop (fun f w zz => ∃ (j : Nat) (tv : Value), f 2 = .int .i64 node ∧ f 8 = .pointer (some ⟨f0, 0, none⟩) ∧ f 11 = .slice (some ⟨b45, 0, none⟩) l.length l.length ∧ f 12 = .int .u64 (((effF l (setV l z1)) : Nat) : Int) ∧ f 54 = .slice (some ⟨gr, 0, none⟩) l.length cr ∧ f 55 = .int .i64 (l.length : Int) ∧ f 56 = .int .i64 (k : Int) ∧ f 13 = .int .i64 (k : Int) ∧ f 14 = ruV (nd l k) ∧ f 15 = tv ∧ f 68 = .slice ai (nd l k).inp.length ci ∧ f 69 = .int .i64 ((nd l k).inp.length : Int) ∧ f 70 = .int .i64 (j : Int) ∧ StX [] w0 w (rowI (tv) 3 1 (lefT (effF l (setV l z1)) (lefS l (effF l (setV l z1)) k) ((nd l k).inp.take j)).length ((lefT (effF l (setV l z1)) (lefS l (effF l (setV l z1)) k) ((nd l k).inp.take j)).flatMap Bx.encI) :: rowI (.slice (some ⟨b45, 0, none⟩) l.length l.length) 3 1 l.length ((lefS l (effF l (setV l z1)) k).flatMap Bx.encI) :: treR (.slice (some ⟨gr, 0, none⟩) l.length cr) l :: treB f0 (.slice an l.length cn) (.slice (some ⟨gr, 0, none⟩) l.length cr) m l :: memoI m l :: rowI (.slice (some ⟨gs, 0, none⟩) [z1].length cs) 57 1 [z1].length ((abS l [z1]).flatMap encU) :: blk b22 [.slice a1 z1.length c1] 26 :: blk b3 [(.slice an l.length cn)] 24 :: ([] : List Bx.Item)) ∧ (j ≤ (nd l k).inp.length) ∧ zz = (nd l k).inp.length - j) _ ⟨_, rfl, 0, _, h2, h8, h11, h12, h54, h55, h56, rfl, rfl, rfl, rfl, rfl, rfl, (hS.nilrow 3 1), (Nat.zero_le _), rfl⟩ ?_
     clear hS
     rintro f w _ ⟨j, tv, h2, h8, h11, h12, h54, h55, h56, h13, h14, h15, h68, h69, h70, hS, hj, rfl⟩
     refine seq ?_
     refine region ?_
     refine sv (yLss h70 h69) ?_
     refine nil ?_
     show Code.wp _ _ _ _ _
     refine seq ?_
     refine cond rfl (fun c71 => ?_) (fun c71 => ?_)
     ·
      simp only [BS, ne_eq] at c71
      obtain ⟨x, hx, hd⟩ := drop_of (l := (nd l k).inp) (k := j) (by omega)
      obtain ⟨bx, ox, cx, hax, -, hcx, hRx, -⟩ := sl_at hin hx
      obtain ⟨rfl, hxi⟩ := hRx
      have hxb := hno.ins x (List.mem_of_getElem? hx)
      obtain ⟨xn, rfl⟩ := Int.eq_ofNat_of_zero_le hxb.1
      have htl := lefT_len (effF l (setV l z1)) (lefS l (effF l (setV l z1)) k) ((nd l k).inp.take j)
      rw [List.length_take] at htl
      have hil := hno.inpl
      have hxa := getD_get (a := (lefS l (effF l (setV l z1)) k)) (j := xn) (by omega)
      refine skip ?_
      show Code.wp _ _ _ _ _
      refine seqJ (n := 109) (fun f w => ∃ (tv : Value), f 2 = .int .i64 node ∧ f 8 = .pointer (some ⟨f0, 0, none⟩) ∧ f 11 = .slice (some ⟨b45, 0, none⟩) l.length l.length ∧ f 12 = .int .u64 (((effF l (setV l z1)) : Nat) : Int) ∧ f 54 = .slice (some ⟨gr, 0, none⟩) l.length cr ∧ f 55 = .int .i64 (l.length : Int) ∧ f 56 = .int .i64 (k : Int) ∧ f 13 = .int .i64 (k : Int) ∧ f 14 = ruV (nd l k) ∧ f 15 = tv ∧ f 68 = .slice ai (nd l k).inp.length ci ∧ f 69 = .int .i64 ((nd l k).inp.length : Int) ∧ f 70 = .int .i64 (j : Int) ∧ StX [] w0 w (rowI (tv) 3 1 (lefT (effF l (setV l z1)) (lefS l (effF l (setV l z1)) k) ((nd l k).inp.take (j + 1))).length ((lefT (effF l (setV l z1)) (lefS l (effF l (setV l z1)) k) ((nd l k).inp.take (j + 1))).flatMap Bx.encI) :: rowI (.slice (some ⟨b45, 0, none⟩) l.length l.length) 3 1 l.length ((lefS l (effF l (setV l z1)) k).flatMap Bx.encI) :: treR (.slice (some ⟨gr, 0, none⟩) l.length cr) l :: treB f0 (.slice an l.length cn) (.slice (some ⟨gr, 0, none⟩) l.length cr) m l :: memoI m l :: rowI (.slice (some ⟨gs, 0, none⟩) [z1].length cs) 57 1 [z1].length ((abS l [z1]).flatMap encU) :: blk b22 [.slice a1 z1.length c1] 26 :: blk b3 [(.slice an l.length cn)] 24 :: ([] : List Bx.Item)) ∧ True) ?_ ?_
      ·
       refine block ?_
       refine seq ?_
       refine region ?_
       refine sv (yIxa h68 hax h70 Tryz.runUnderlying26 Tryz.sizeOf3 (by omega) (by omega)) ?_
       refine sv (yLd rfl Tryz.isAgg3 ((hcx.ext hS.ext).one)) ?_
       refine sv (yAsg rfl) ?_
       refine nil ?_
       show Code.wp _ _ _ _ _
       refine seq ?_
       refine region ?_
       refine sv (yMove h12) ?_
       refine sv (yMove rfl) ?_
       refine scall Tryz.call13 (.cons rfl (.cons rfl .nil)) (c_has (effS_lt (setV_lt (by omega) _) (by omega)) (by omega)) ?_
       rintro _ w ⟨rfl, hE⟩; replace hS := hS.step hE; clear hE
       refine nil ?_
       show Code.wp _ _ _ _ _
       refine cond rfl (fun c76 => ?_) (fun c76 => ?_)
       ·
        refine region ?_
        refine sv (yMove h15) ?_
        refine sv (yMove h11) ?_
        refine sv (yMove rfl) ?_
        refine sv (yIx0 (m := xn) rfl rfl Tryz.runUnderlying26 Tryz.sizeOf3 (by omega)) ?_
        refine sv (yLd rfl Tryz.isAgg3 ((flat_cells0 (enc := Bx.encI) encI_len (row_at (hS.row (.slice (some ⟨b45, 0, none⟩) l.length l.length)) rfl (by omega)) hxa).one)) ?_
        refine sbslice hS Tryz.underlying26 Tryz.sizeOf3 rfl Tryz.zeroValue3 rfl (.cons rfl rfl .nil) rfl ?_; clear hS; intro b82 w hS
        refine sapp (bytes := 8) (size := 1) (v := tv) (m := 1) hS rfl rfl Tryz.underlying26 ti3 rfl rfl rfl rfl (by decide) (blk_cells (hS.at _)) rfl rfl (by omega) (by omega) ?_; clear hS; intro v83 w hS
        refine sv (yAsg rfl) ?_
        refine nil ?_
        exact ⟨_, rfl, _, h2, h8, h11, h12, h54, h55, h56, h13, h14, rfl, h68, h69, h70, (by rw [lefT_yes hx c76, List.flatMap_append, List.length_append]; exact hS.sub (.cons _ (List.Sublist.refl _))), trivial⟩
       ·
        refine skip ?_
        exact ⟨_, rfl, tv, h2, h8, h11, h12, h54, h55, h56, h13, h14, h15, h68, h69, h70, (by rw [lefT_no hx c76]; exact hS), trivial⟩
      ·
       clear hS; rintro f w ⟨tv, h2, h8, h11, h12, h54, h55, h56, h13, h14, h15, h68, h69, h70, hS, -⟩
       refine region ?_
       refine sv (yAdd h70 rfl ⟨by omega, by omega⟩) ?_
       refine sv (yMove rfl) ?_
       refine nil ?_
       exact ⟨_, _, rfl, ⟨j + 1, tv, h2, h8, h11, h12, h54, h55, h56, h13, h14, h15, h68, h69, rfl, hS, (by omega), rfl⟩, by omega⟩
     ·
      simp only [BS, ne_eq] at c71
      obtain rfl : j = (nd l k).inp.length := by omega
      rw [List.take_length] at hS
      have htl := lefT_len (effF l (setV l z1)) (lefS l (effF l (setV l z1)) k) (nd l k).inp
      have hil := hno.inpl
      refine exit ?_
      show Code.wp _ _ _ _ _
      refine seq ?_
      refine region ?_
      refine sv (yMove h15) ?_
      refine scall Tryz.call37 (.cons rfl .nil) (c_Sort (hS.row tv) rfl (by omega)) ?_
      rintro _ w ⟨rfl, hG2, hR⟩; replace hS := hS.app (v := tv) (v' := tv) hR hG2 (.inl rfl); clear hG2 hR
      have hsl := (sortI_perm (lefT (effF l (setV l z1)) (lefS l (effF l (setV l z1)) k) (nd l k).inp)).length_eq
      rw [← hsl] at hS
      replace hS : StX [] w0 w (rowI (tv) 3 1 (sortI (lefT (effF l (setV l z1)) (lefS l (effF l (setV l z1)) k) (nd l k).inp)).length ((sortI (lefT (effF l (setV l z1)) (lefS l (effF l (setV l z1)) k) (nd l k).inp)).flatMap Bx.encI) :: rowI (.slice (some ⟨b45, 0, none⟩) l.length l.length) 3 1 l.length ((lefS l (effF l (setV l z1)) k).flatMap Bx.encI) :: treR (.slice (some ⟨gr, 0, none⟩) l.length cr) l :: treB f0 (.slice an l.length cn) (.slice (some ⟨gr, 0, none⟩) l.length cr) m l :: memoI m l :: rowI (.slice (some ⟨gs, 0, none⟩) [z1].length cs) 57 1 [z1].length ((abS l [z1]).flatMap encU) :: blk b22 [.slice a1 z1.length c1] 26 :: blk b3 [(.slice an l.length cn)] 24 :: ([] : List Bx.Item)) := hS
      obtain ⟨at_, ct, rfl⟩ := row_shape (hS.row tv)
      refine nil ?_
      show Code.wp _ _ _ _ _
      refine seq ?_
      refine region ?_
      refine sv (yMove h15) ?_
      refine sv (yLen rfl Tryz.underlying26) ?_
      refine sv (yMove h14) ?_
      refine s_need hno.hold1 hS rfl ?_; clear hS; intro w hS
      refine sv (yGeq rfl rfl) ?_
      refine nil ?_
      show Code.wp _ _ _ _ _
      refine cond rfl (fun c91 => ?_) (fun c91 => ?_)
      ·
       simp only [BS, ne_eq] at c91
       have hq : needF (nd l k) ≤ ((lefT (effF l (setV l z1)) (lefS l (effF l (setV l z1)) k) (nd l k).inp).length : Int) := by omega
       have hst := lef_yes hq
       obtain ⟨gt, rfl, -⟩ := row_get (hS.row (.slice at_ (sortI (lefT (effF l (setV l z1)) (lefS l (effF l (setV l z1)) k) (nd l k).inp)).length ct)) (by omega)
       obtain ⟨qn, hqn⟩ := Int.eq_ofNat_of_zero_le (show 0 ≤ needF (nd l k) - 1 by omega)
       have hqa := getD_get (a := sortI (lefT (effF l (setV l z1)) (lefS l (effF l (setV l z1)) k) (nd l k).inp)) (j := (needF (nd l k) - 1).toNat) (by omega)
       have hvb : 0 ≤ (sortI (lefT (effF l (setV l z1)) (lefS l (effF l (setV l z1)) k) (nd l k).inp)).getD (needF (nd l k) - 1).toNat 0 + (nd l k).hold ∧ (sortI (lefT (effF l (setV l z1)) (lefS l (effF l (setV l z1)) k) (nd l k).inp)).getD (needF (nd l k) - 1).toNat 0 + (nd l k).hold ≤ 100 * ((k + 1 : Nat) : Int) := lefS_bd (es := (effF l (setV l z1))) hok (show k + 1 ≤ l.length by omega) _ (by rw [hst]; exact List.mem_iff_getElem?.2 ⟨k, by rw [List.getElem?_set, if_pos rfl, if_pos (by omega)]⟩)
       refine region_mix (fun w => StX [] w0 w (rowI (.slice (some ⟨gt, 0, none⟩) (sortI (lefT (effF l (setV l z1)) (lefS l (effF l (setV l z1)) k) (nd l k).inp)).length ct) 3 1 (sortI (lefT (effF l (setV l z1)) (lefS l (effF l (setV l z1)) k) (nd l k).inp)).length ((sortI (lefT (effF l (setV l z1)) (lefS l (effF l (setV l z1)) k) (nd l k).inp)).flatMap Bx.encI) :: rowI (.slice (some ⟨b45, 0, none⟩) l.length l.length) 3 1 l.length ((lefS l (effF l (setV l z1)) k).flatMap Bx.encI) :: treR (.slice (some ⟨gr, 0, none⟩) l.length cr) l :: treB f0 (.slice an l.length cn) (.slice (some ⟨gr, 0, none⟩) l.length cr) m l :: memoI m l :: rowI (.slice (some ⟨gs, 0, none⟩) [z1].length cs) 57 1 [z1].length ((abS l [z1]).flatMap encU) :: blk b22 [.slice a1 z1.length c1] 26 :: blk b3 [(.slice an l.length cn)] 24 :: ([] : List Bx.Item))) 12 mixed hS ?_
       clear hS; intro w hS
       refine f_step 0 (by kernel_rfl) rfl (fun c a a' w h => by obtain ⟨_, v, hv, _⟩ := h; cases hv) (by refine hS.sub ?_; repeat first | exact List.Sublist.refl _ | exact List.nil_sublist _ | apply List.Sublist.cons_cons | apply List.Sublist.cons) (fun w hS => (yMove h11)) ?_
       refine f_step 1 (by kernel_rfl) rfl (fun c a a' w h => by obtain ⟨_, v, hv, _⟩ := h; cases hv) (by refine hS.sub ?_; repeat first | exact List.Sublist.refl _ | exact List.nil_sublist _ | apply List.Sublist.cons_cons | apply List.Sublist.cons) (fun w hS => (yMove h13)) ?_
       refine f_step 2 (by kernel_rfl) rfl (fun c a a' w h => by obtain ⟨_, v, hv, _⟩ := h; cases hv) (by refine hS.sub ?_; repeat first | exact List.Sublist.refl _ | exact List.nil_sublist _ | apply List.Sublist.cons_cons | apply List.Sublist.cons) (fun w hS => (yMove h15)) ?_
       refine f_step 3 (by kernel_rfl) rfl (fun c a a' w h => by obtain ⟨_, v, hv, _⟩ := h; cases hv) (by refine hS.sub ?_; repeat first | exact List.Sublist.refl _ | exact List.nil_sublist _ | apply List.Sublist.cons_cons | apply List.Sublist.cons) (fun w hS => (yMove h14)) ?_
       refine f_step 8 (by kernel_rfl) rfl (fun c a a' w h => by obtain ⟨_, v, hv, _⟩ := h; cases hv) (by refine hS.sub ?_; repeat first | exact List.Sublist.refl _ | exact List.nil_sublist _ | apply List.Sublist.cons_cons | apply List.Sublist.cons) (fun w hS => (yMove h14)) ?_
       show wpA _ _ _ _ _ _ _ _ _ _
       refine a_step (i := 4) (is := []) (by kernel_rfl) ⟨?_, trivial⟩
       refine ⟨_, rfl, ?_⟩
       refine s_need hno.hold1 hS rfl ?_; clear hS; intro w hS
       refine nil ?_
       refine ⟨fun _ => (by refine hS.sub ?_; repeat first | exact List.Sublist.refl _ | exact List.nil_sublist _ | apply List.Sublist.cons_cons | apply List.Sublist.cons), ?_⟩
       show wpA _ _ _ _ _ _ _ _ _ _
       refine f_step 5 (by kernel_rfl) rfl (fun c a a' w h => by obtain ⟨_, v, hv, _⟩ := h; cases hv) (by refine hS.sub ?_; repeat first | exact List.Sublist.refl _ | exact List.nil_sublist _ | apply List.Sublist.cons_cons | apply List.Sublist.cons) (fun w hS => (ySub rfl rfl ⟨by omega, by omega⟩)) ?_
       refine f_step 6 (by kernel_rfl) rfl (fun c a a' w h => by obtain ⟨_, v, hv, _⟩ := h; cases hv) (by refine hS.sub ?_; repeat first | exact List.Sublist.refl _ | exact List.nil_sublist _ | apply List.Sublist.cons_cons | apply List.Sublist.cons) (fun w hS => (yIxa rfl rfl rfl Tryz.runUnderlying26 Tryz.sizeOf3 (by omega) (by omega))) ?_
       refine f_step 7 (by kernel_rfl) rfl (fun c a a' w h => by obtain ⟨_, v, hv, _⟩ := h; cases hv) (by refine hS.sub ?_; repeat first | exact List.Sublist.refl _ | exact List.nil_sublist _ | apply List.Sublist.cons_cons | apply List.Sublist.cons) (fun w hS => (yLd rfl Tryz.isAgg3 ((flat_cells (enc := Bx.encI) encI_len (row_at (hS.row (.slice (some ⟨gt, 0, none⟩) (sortI (lefT (effF l (setV l z1)) (lefS l (effF l (setV l z1)) k) (nd l k).inp)).length ct)) rfl (by omega)) hqa).one))) ?_
       show wpA _ _ _ _ _ _ _ _ _ _
       refine a_step (i := 9) (is := []) (by kernel_rfl) ⟨?_, trivial⟩
       refine ⟨_, rfl, ?_⟩
       refine s_hold hno.hold1 hS rfl ?_; clear hS; intro w hS
       refine nil ?_
       refine ⟨fun _ => (by refine hS.sub ?_; repeat first | exact List.Sublist.refl _ | exact List.nil_sublist _ | apply List.Sublist.cons_cons | apply List.Sublist.cons), ?_⟩
       show wpA _ _ _ _ _ _ _ _ _ _
       refine f_step 10 (by kernel_rfl) rfl (fun c a a' w h => by obtain ⟨_, v, hv, _⟩ := h; cases hv) (by refine hS.sub ?_; repeat first | exact List.Sublist.refl _ | exact List.nil_sublist _ | apply List.Sublist.cons_cons | apply List.Sublist.cons) (fun w hS => (yAdd rfl rfl ⟨by omega, by omega⟩)) ?_
       refine f_step 11 (by kernel_rfl) rfl (fun c a a' w h => by obtain ⟨_, v, hv, _⟩ := h; cases hv) (by refine hS.sub ?_; repeat first | exact List.Sublist.refl _ | exact List.nil_sublist _ | apply List.Sublist.cons_cons | apply List.Sublist.cons) (fun w hS => (yIx0 (m := k) rfl rfl Tryz.runUnderlying26 Tryz.sizeOf3 (by omega))) ?_
       show wpA _ _ _ _ _ _ _ _ _ _
       refine a_step (i := 12) (is := []) (by kernel_rfl) ⟨?_, trivial⟩
       refine ⟨_, rfl, ?_⟩
       refine srst (m := l.length) (cap := l.length) (sz := 1) hS rfl rfl Tryz.sizeOf3 rfl rfl (by omega) rfl ?_; clear hS; intro w hS
       refine nil ?_
       refine ⟨fun h => absurd h (by decide), ?_⟩
       show wpA _ _ _ _ _ _ _ _ _ _
       refine a_end (by kernel_rfl) ?_
       exact ⟨_, rfl, h2, h8, h11, h12, h54, h55, h56, (by rw [hst, ← splice_enc (enc := Bx.encI) encI_len _ _ _ (by omega)]; exact hS.sub (.cons _ (List.Sublist.refl _))), trivial⟩
      ·
       simp only [BS, ne_eq] at c91
       have hst := lef_no (l := l) (es := (effF l (setV l z1))) (k := k) (by omega)
       refine skip ?_
       exact ⟨_, rfl, h2, h8, h11, h12, h54, h55, h56, (by rw [hst]; exact hS.sub (.cons _ (List.Sublist.refl _))), trivial⟩
    ·
     clear hS; rintro f w ⟨h2, h8, h11, h12, h54, h55, h56, hS, -⟩
     refine region ?_
     refine sv (yAdd h56 rfl ⟨by omega, by omega⟩) ?_
     refine sv (yMove rfl) ?_
     refine nil ?_
     exact ⟨_, _, rfl, ⟨k + 1, h2, h8, h11, h12, h54, h55, rfl, hS, (by omega), rfl⟩, by omega⟩
   ·
    simp only [BS, ne_eq] at c57
    obtain rfl : k = l.length := by omega
    have hfl := lefS_len (l := l) (es := (effF l (setV l z1))) l.length
    have hfb := lefS_bd (es := (effF l (setV l z1))) hok (Nat.le_refl l.length)
    refine exit ?_
    show Code.wp _ _ _ _ _
    refine seq ?_
    refine region ?_
    refine sv (yMove h11) ?_
    refine sv (yMove h2) ?_
    refine sv (yIxa rfl rfl rfl Tryz.runUnderlying26 Tryz.sizeOf3 (by omega) (by omega)) ?_
    refine sv (yLd rfl Tryz.isAgg3 ((flat_cells (enc := Bx.encI) encI_len (row_at (hS.row (.slice (some ⟨b45, 0, none⟩) l.length l.length)) rfl (by omega)) (getD_get (a := (lefS l (effF l (setV l z1)) l.length)) (j := node.toNat) (by omega))).one)) ?_
    refine sv (yAsg rfl) ?_
    refine sv (yAsg rfl) ?_
    refine nil ?_
    show Code.wp _ _ _ _ _
    refine wp_ret ?_
    refine retQ (res2 rfl rfl rfl) ?_
    exact ⟨rfl, hS.ext⟩
/-- barrage/failure.Saves closure 1 -/
theorem c_Sav1 {l : List Nod} {z1 : List Int} {gs cs b11 b15 b7 k : Nat} {i n : Int} {T4 T5 T6 : TypeId} {w0 : World} (hb1 : w0.heap[b11]? = some (.cells [.slice (some ⟨gs, 0, none⟩) [z1].length cs].toArray T4 (0, 0))) (hrq : Cells w0 gs (0 * 1) (encU (setV l z1))) (hb2 : w0.heap[b15]? = some (.cells [.int .i64 i].toArray T5 (0, 0))) (hb3 : w0.heap[b7]? = some (.cells [.int .i64 n].toArray T6 (0, 0))) (hs : (setV l z1) < 18446744073709551616) (hk : k < 64) : CE Tryz.prog 38 #[.int .i64 (k : Int), .pointer (some ⟨b11, 0, none⟩), .pointer (some ⟨b15, 0, none⟩), .pointer (some ⟨b7, 0, none⟩)] w0 (fun u w' => St w0 w' [spR u (savR (setV l z1) i n k)]) := by
 refine enter Tryz.func38 rfl Tryz.ntmps38 rfl ?_
 have hS := St.start w0
 refine seq ?_
 refine region ?_
 refine sv (yAsg rfl) ?_
 refine nil ?_
 show Code.wp _ _ _ _ _
 refine seq ?_
 refine region ?_
 refine sv (yMove rfl) ?_
 refine sv (yBuild Tryz.zeroValue35 rfl pl35 (.cons rfl rfl (.cons rfl rfl .nil)) rfl) ?_
 refine salloc hS Tryz.zeroValue35 rfl ?_; clear hS; intro b6 w hS
 refine sst hS rfl rfl Tryz.sizeOf35 rfl rfl rfl rfl ?_; clear hS; intro w hS
 refine nil ?_
 show Code.wp _ _ _ _ _
 refine seq ?_
 refine block ?_
 refine seq ?_
 refine region ?_
 refine sv (yLdB rfl Tryz.isAgg53 (hS.ext.get hb1) rfl) ?_
 refine sv (yIx0 (m := 0) rfl rfl Tryz.runUnderlying53 Tryz.sizeOf57 (by simp)) ?_
 refine sv (yLd rfl Tryz.isAgg57 ((hrq.ext hS.ext).one)) ?_
 refine sv (yMove rfl) ?_
 refine scall Tryz.call13 (.cons rfl (.cons rfl .nil)) (c_has hs hk) ?_
 rintro _ w ⟨rfl, hE⟩; replace hS := hS.step hE; clear hE
 refine sv (yNot rfl) ?_
 refine sv (yAsg rfl) ?_
 refine nil ?_
 show Code.wp _ _ _ _ _
 refine cond rfl (fun c9 => ?_) (fun c9 => ?_)
 ·
  have k9 : (setV l z1).testBit k = false := by simpa using c9
  have hv : (savR (setV l z1) i n k) = [] := by unfold savR; rw [k9]; rfl
  refine seq ?_
  refine region ?_
  refine sv (yAsg rfl) ?_
  refine nil ?_
  show Code.wp _ _ _ _ _
  refine wp_ret (blockR (thenR ?_))
  refine retQ (res1 rfl rfl) ?_
  rw [hv]
  exact (hS.nilrow 35 3).sub (.cons_cons _ (List.nil_sublist _))
 ·
  have k9 : (setV l z1).testBit k = true := by simpa using c9
  refine seq ?_
  refine region ?_
  refine sv (yMove rfl) ?_
  refine sv (yLdB rfl Tryz.isAgg3 (hS.ext.get hb2) rfl) ?_
  refine sv (yEql rfl rfl) ?_
  refine sv (yAsg rfl) ?_
  refine nil ?_
  show Code.wp _ _ _ _ _
  refine cond rfl (fun c16 => ?_) (fun c16 => ?_)
  ·
   simp only [BS, ne_eq] at c16
   refine region ?_
   refine sv (yLdB rfl Tryz.isAgg3 (hS.ext.get hb3) rfl) ?_
   refine sv (fa35_2 rfl) ?_
   refine sst hS rfl rfl Tryz.sizeOf3 rfl rfl rfl rfl ?_; clear hS; intro w hS
   refine nil ?_
   show Code.wp _ _ _ _ _
   refine seq ?_
   refine region ?_
   refine sv (yLdBA rfl Tryz.isAgg35 Tryz.sizeOf35 (hS.at _) rfl rfl) ?_
   refine sbslice hS Tryz.underlying25 Tryz.sizeOf35 rfl Tryz.zeroValue35 rfl (.cons rfl rfl .nil) rfl ?_; clear hS; intro b23 w hS
   refine sv (yAsg rfl) ?_
   refine nil ?_
   show Code.wp _ _ _ _ _
   refine wp_ret ?_
   refine retQ (res1 rfl rfl) ?_
   have hv : (savR (setV l z1) i n k) = [⟨(k : Int), 0, n⟩] := by unfold savR; rw [if_pos k9, if_pos c16]
   rw [hv]
   exact (hS.toRow 3 1 rfl (by decide)).sub (.cons_cons _ (List.nil_sublist _))
  ·
   simp only [BS, ne_eq] at c16
   refine skip ?_
   show Code.wp _ _ _ _ _
   refine seq ?_
   refine region ?_
   refine sv (yLdBA rfl Tryz.isAgg35 Tryz.sizeOf35 (hS.at _) rfl rfl) ?_
   refine sbslice hS Tryz.underlying25 Tryz.sizeOf35 rfl Tryz.zeroValue35 rfl (.cons rfl rfl .nil) rfl ?_; clear hS; intro b23 w hS
   refine sv (yAsg rfl) ?_
   refine nil ?_
   show Code.wp _ _ _ _ _
   refine wp_ret ?_
   refine retQ (res1 rfl rfl) ?_
   have hv : (savR (setV l z1) i n k) = [⟨(k : Int), 0, 1073741824⟩] := by unfold savR; rw [if_pos k9, if_neg c16]
   rw [hv]
   exact (hS.toRow 3 1 rfl (by decide)).sub (.cons_cons _ (List.nil_sublist _))
/-- barrage/failure.Saves -/
theorem c_Saves {l : List Nod} {nv v1 : Value} {z1 : List Int} {node n : Int} {w0 : World} (hn : Sl w0 5 RNod nv l) (hz1 : Sl w0 1 RInt v1 z1) (hz : abE l node [z1] = 0) (hn4 : 0 ≤ n ∧ n ≤ 400) : CE Tryz.prog 19 #[.agg [nv].toArray, v1, .int .i64 node, .int .i64 n] w0 (fun u w' => ∃ v, u = .tuple #[v, .int .i64 0] ∧ St w0 w' [rowI (v) 3 1 (savL l z1 node n).length ((savL l z1 node n).flatMap Bx.encI)]) := by
 obtain ⟨a1, c1, rfl, -⟩ := id hz1
 obtain ⟨an, cn, rfl, -⟩ := id hn
 obtain ⟨hc0, hnb, hse⟩ := ab_ok hz
 have hok := fa_ok hc0
 have hln := hok.len
 obtain ⟨jn, rfl⟩ := Int.eq_ofNat_of_zero_le hnb.1
 have hs64 : (setV l z1) < 18446744073709551616 := setV_lt (by omega) _
 have hbl : (bitsL (setV l z1)).length ≤ 64 := bitsK_len _ 64
 refine enter Tryz.func19 rfl Tryz.ntmps19 rfl ?_
 have hS := St.start w0
 refine seq ?_
 refine region ?_
 refine sbox hS rfl rfl ?_; clear hS; intro b4 w hS
 refine sbox hS rfl rfl ?_; clear hS; intro b7 w hS
 refine sv (yAsg rfl) ?_
 refine sv (yAsg rfl) ?_
 refine nil ?_
 show Code.wp _ _ _ _ _
 refine seq ?_
 refine region ?_
 refine sv (yLdBA rfl Tryz.isAgg24 Tryz.sizeOf24 (hS.at _) rfl rfl) ?_
 refine sv (yMove rfl) ?_
 refine sv (yMove rfl) ?_
 refine sbslice hS Tryz.underlying69 Tryz.sizeOf26 rfl Tryz.zeroValue26 rfl (.cons rfl rfl .nil) rfl ?_; clear hS; intro b21 w hS
 refine scall Tryz.call9 (.cons rfl (.cons rfl (.cons rfl .nil))) (c_about (ls := [z1]) (node := (jn : Int)) (hn.ext RNod.stays hS.ext) (sl_of_blk (hS.at b21) (css := [[.slice a1 z1.length c1]]) (l := [z1]) rfl ⟨rfl, ⟨_, rfl, hz1.ext RInt.stays hS.ext⟩, trivial⟩ (by simp) rfl) (by simp)) ?_
 rintro _ w (⟨hzz, -, -⟩ | ⟨-, f0, rv, m, sq, rfl, hM⟩)
 ·
  exact absurd hz hzz
 replace hS : StX [] w0 w (rowI (sq) 57 1 [z1].length ((abS l [z1]).flatMap encU) :: treR rv l :: treB f0 (.slice an l.length cn) rv m l :: memoI m l :: blk b21 [.slice a1 z1.length c1] 26 :: blk b7 [.int .i64 n] 3 :: blk b4 [(.slice an l.length cn)] 24 :: ([] : List Bx.Item)) := hS.call hM; clear hM
 obtain ⟨gs, cs, rfl, -⟩ := row_some (hS.row sq) (show 0 < [z1].length by simp)
 obtain ⟨ar, cr, rfl⟩ := row_shape (hS.row rv)
 replace hS : StX [] w0 w (rowI (.slice (some ⟨gs, 0, none⟩) [z1].length cs) 57 1 [z1].length ((abS l [z1]).flatMap encU) :: treR (.slice ar l.length cr) l :: treB f0 (.slice an l.length cn) (.slice ar l.length cr) m l :: memoI m l :: blk b21 [.slice a1 z1.length c1] 26 :: blk b7 [.int .i64 n] 3 :: blk b4 [(.slice an l.length cn)] 24 :: ([] : List Bx.Item)) := hS
 refine sv (yMove rfl) ?_
 refine sv (yExt rfl rfl) ?_
 refine sv (yExt rfl rfl) ?_
 refine sv (yExt rfl rfl) ?_
 refine salloc hS Tryz.zeroValue53 rfl ?_; clear hS; intro b11 w hS
 refine sv (yAsg rfl) ?_
 refine sst hS rfl rfl Tryz.sizeOf53 rfl rfl rfl rfl ?_; clear hS; intro w hS
 refine sv (yAsg rfl) ?_
 refine nil ?_
 show Code.wp _ _ _ _ _
 refine seq ?_
 refine block ?_
 refine seq ?_
 refine region ?_
 replace hS : StX [] w0 w (treR (.slice ar l.length cr) l :: treB f0 (.slice an l.length cn) (.slice ar l.length cr) m l :: memoI m l :: blk b11 [.slice (some ⟨gs, 0, none⟩) [z1].length cs] 53 :: rowI (.slice (some ⟨gs, 0, none⟩) [z1].length cs) 57 1 [z1].length ((abS l [z1]).flatMap encU) :: blk b21 [.slice a1 z1.length c1] 26 :: blk b7 [.int .i64 n] 3 :: blk b4 [(.slice an l.length cn)] 24 :: ([] : List Bx.Item)) := hS.perm (List.perm_append_comm_assoc [_, _] [_, _, _] _)
 refine sv (yMove rfl) ?_
 refine sv (yNeq rfl rfl) ?_
 refine sv (yAsg rfl) ?_
 refine nil ?_
 show Code.wp _ _ _ _ _
 refine cond rfl (fun c26 => ?_) (fun c26 => ?_)
 ·
  exact absurd c26 (by decide)
 ·
  refine seq ?_
  refine region ?_
  refine sv (yLdB rfl Tryz.isAgg3 (hS.at _) rfl) ?_
  refine scall Tryz.call12 (.cons rfl (.cons rfl (.cons rfl .nil))) c_fout ?_
  rintro _ w ⟨rfl, hE⟩; replace hS := hS.step hE; clear hE
  refine sv (yAsg rfl) ?_
  refine nil ?_
  show Code.wp _ _ _ _ _
  refine cond rfl (fun c30 => ?_) (fun c30 => ?_)
  ·
   exact absurd (show outB n 0 400 = true from c30) (by rw [outB_false.2 hn4]; decide)
  ·
   refine skip ?_
   show Code.wp _ _ _ _ _
   refine seq ?_
   refine region ?_
   refine sv (yAsg rfl) ?_
   refine nil ?_
   show Code.wp _ _ _ _ _
   refine seq ?_
   refine seq ?_
   refine region ?_
   refine sv (yLdB rfl Tryz.isAgg53 (hS.at _) rfl) ?_
   refine sv (yIx0 (m := 0) rfl rfl Tryz.runUnderlying53 Tryz.sizeOf57 (by simp)) ?_
   refine sv (yLd rfl Tryz.isAgg57 ((flat_cells0 (enc := encU) encU_len (row_at (hS.row (.slice (some ⟨gs, 0, none⟩) [z1].length cs)) rfl (by simp)) (show (abS l [z1])[0]? = some (setV l z1) from rfl)).one)) ?_
   refine scall Tryz.call36 (.cons rfl .nil) (c_list hs64) ?_
   rintro v36 w hM; replace hS : StX [] w0 w (treR (.slice ar l.length cr) l :: treB f0 (.slice an l.length cn) (.slice ar l.length cr) m l :: memoI m l :: rowI (v36) 3 1 (bitsL (setV l z1)).length ((bitsL (setV l z1)).flatMap Bx.encI) :: blk b11 [.slice (some ⟨gs, 0, none⟩) [z1].length cs] 53 :: rowI (.slice (some ⟨gs, 0, none⟩) [z1].length cs) 57 1 [z1].length ((abS l [z1]).flatMap encU) :: blk b21 [.slice a1 z1.length c1] 26 :: blk b7 [.int .i64 n] 3 :: blk b4 [(.slice an l.length cn)] 24 :: ([] : List Bx.Item)) := (hS.call1 hM).perm (List.perm_middle (l₁ := [_, _, _])).symm; clear hM
   obtain ⟨a36, c36, rfl⟩ := row_shape (hS.row v36)
   refine sv (yLen rfl Tryz.underlying26) ?_
   refine sv (yMove rfl) ?_
   refine nil ?_
   show Code.wp _ _ _ _ _
   refine block ?_
   refine loop (fun f w zz => ∃ (k : Nat) (ov : Value), f 2 = .int .i64 (jn : Int) ∧ f 7 = .pointer (some ⟨b7, 0, none⟩) ∧ f 10 = .pointer (some ⟨f0, 0, none⟩) ∧ f 11 = .pointer (some ⟨b11, 0, none⟩) ∧ f 13 = ov ∧ f 36 = .slice a36 (bitsL (setV l z1)).length c36 ∧ f 37 = .int .i64 ((bitsL (setV l z1)).length : Int) ∧ f 38 = .int .i64 (k : Int) ∧ StX [] w0 w (treR (.slice ar l.length cr) l :: treB f0 (.slice an l.length cn) (.slice ar l.length cr) m l :: memoI m l :: rowI (ov) 3 1 (((bitsL (setV l z1)).take k).filter (savB l (setV l z1) (jn : Int) n)).length ((((bitsL (setV l z1)).take k).filter (savB l (setV l z1) (jn : Int) n)).flatMap Bx.encI) :: rowI (.slice a36 (bitsL (setV l z1)).length c36) 3 1 (bitsL (setV l z1)).length ((bitsL (setV l z1)).flatMap Bx.encI) :: blk b11 [.slice (some ⟨gs, 0, none⟩) [z1].length cs] 53 :: rowI (.slice (some ⟨gs, 0, none⟩) [z1].length cs) 57 1 [z1].length ((abS l [z1]).flatMap encU) :: blk b21 [.slice a1 z1.length c1] 26 :: blk b7 [.int .i64 n] 3 :: blk b4 [(.slice an l.length cn)] 24 :: ([] : List Bx.Item)) ∧ (k ≤ (bitsL (setV l z1)).length) ∧ zz = (bitsL (setV l z1)).length - k) _ ⟨_, rfl, 0, _, rfl, rfl, rfl, rfl, rfl, rfl, rfl, rfl, ((hS.nilrow 3 1).perm (List.perm_middle (l₁ := [_, _, _])).symm), (Nat.zero_le _), rfl⟩ ?_
   clear hS
   rintro f w _ ⟨k, ov, h2, h7, h10, h11, h13, h36, h37, h38, hS, hk, rfl⟩
   refine seq ?_
   refine region ?_
   refine sv (yLss h38 h37) ?_
   refine nil ?_
   show Code.wp _ _ _ _ _
   refine seq ?_
   refine cond rfl (fun c39 => ?_) (fun c39 => ?_)
   ·
    simp only [BS, ne_eq] at c39
    obtain ⟨i, hx, hd⟩ := drop_of (l := (bitsL (setV l z1))) (k := k) (by omega)
    obtain ⟨g36, rfl, -⟩ := row_get (hS.row (.slice a36 (bitsL (setV l z1)).length c36)) (by omega)
    have hfl : (((bitsL (setV l z1)).take k).filter (savB l (setV l z1) (jn : Int) n)).length ≤ 64 := Nat.le_trans (List.length_filter_le _ _) (by rw [List.length_take]; omega)
    refine skip ?_
    show Code.wp _ _ _ _ _
    refine seqJ (n := 57) (fun f w => ∃ (ov : Value), f 2 = .int .i64 (jn : Int) ∧ f 7 = .pointer (some ⟨b7, 0, none⟩) ∧ f 10 = .pointer (some ⟨f0, 0, none⟩) ∧ f 11 = .pointer (some ⟨b11, 0, none⟩) ∧ f 13 = ov ∧ f 36 = .slice (some ⟨g36, 0, none⟩) (bitsL (setV l z1)).length c36 ∧ f 37 = .int .i64 ((bitsL (setV l z1)).length : Int) ∧ f 38 = .int .i64 (k : Int) ∧ StX [] w0 w (treR (.slice ar l.length cr) l :: treB f0 (.slice an l.length cn) (.slice ar l.length cr) m l :: memoI m l :: rowI (ov) 3 1 (((bitsL (setV l z1)).take (k + 1)).filter (savB l (setV l z1) (jn : Int) n)).length ((((bitsL (setV l z1)).take (k + 1)).filter (savB l (setV l z1) (jn : Int) n)).flatMap Bx.encI) :: rowI (.slice (some ⟨g36, 0, none⟩) (bitsL (setV l z1)).length c36) 3 1 (bitsL (setV l z1)).length ((bitsL (setV l z1)).flatMap Bx.encI) :: blk b11 [.slice (some ⟨gs, 0, none⟩) [z1].length cs] 53 :: rowI (.slice (some ⟨gs, 0, none⟩) [z1].length cs) 57 1 [z1].length ((abS l [z1]).flatMap encU) :: blk b21 [.slice a1 z1.length c1] 26 :: blk b7 [.int .i64 n] 3 :: blk b4 [(.slice an l.length cn)] 24 :: ([] : List Bx.Item)) ∧ True) ?_ ?_
    ·
     refine block ?_
     refine seq ?_
     refine region ?_
     refine sv (yIx0 (m := k) h36 h38 Tryz.runUnderlying26 Tryz.sizeOf3 (by omega)) ?_
     refine sv (yLd rfl Tryz.isAgg3 ((flat_cells0 (enc := Bx.encI) encI_len (row_at (hS.row (.slice (some ⟨g36, 0, none⟩) (bitsL (setV l z1)).length c36)) rfl (by omega)) hx).one)) ?_
     refine salloc hS Tryz.zeroValue3 rfl ?_; clear hS; intro b15 w hS
     refine sst hS rfl rfl Tryz.sizeOf3 rfl rfl rfl rfl ?_; clear hS; intro w hS
     refine nil ?_
     show Code.wp _ _ _ _ _
     refine seq ?_
     refine region ?_
     refine sv (yMove h10) ?_
     refine sv (yFn (.cons h11 (.cons rfl (.cons h7 .nil)))) ?_
     refine scall Tryz.call14 (.cons rfl (.cons rfl .nil)) (c_run (L9 := blk b15 [.int .i64 i] 3 :: rowI (ov) 3 1 (((bitsL (setV l z1)).take k).filter (savB l (setV l z1) (jn : Int) n)).length ((((bitsL (setV l z1)).take k).filter (savB l (setV l z1) (jn : Int) n)).flatMap Bx.encI) :: rowI (.slice (some ⟨g36, 0, none⟩) (bitsL (setV l z1)).length c36) 3 1 (bitsL (setV l z1)).length ((bitsL (setV l z1)).flatMap Bx.encI) :: blk b11 [.slice (some ⟨gs, 0, none⟩) [z1].length cs] 53 :: rowI (.slice (some ⟨gs, 0, none⟩) [z1].length cs) 57 1 [z1].length ((abS l [z1]).flatMap encU) :: blk b21 [.slice a1 z1.length c1] 26 :: blk b7 [.int .i64 n] 3 :: blk b4 [(.slice an l.length cn)] 24 :: ([] : List Bx.Item)) (U := 1073741824) (own := savR (setV l z1) i n) (cl := [.pointer (some ⟨b11, 0, none⟩), .pointer (some ⟨b15, 0, none⟩), .pointer (some ⟨b7, 0, none⟩)]) hn hok (hS.perm (List.perm_middle (l₁ := [_, _, _])).symm) Tryz.call38 (fun k w1 hk hL e => c_Sav1 (blk_ok (hL _ (.tail _ (.tail _ (.tail _ (.head _)))))) (flat_cells0 (enc := encU) encU_len (row_at (hL _ (.tail _ (.tail _ (.tail _ (.tail _ (.head _)))))) rfl (by simp)) (show (abS l [z1])[0]? = some (setV l z1) from rfl)) (blk_ok (hL _ (.head _))) (blk_ok (hL _ (.tail _ (.tail _ (.tail _ (.tail _ (.tail _ (.tail _ (.head _)))))))) ) hs64 (by omega)) (savR_ok hn4) savR_len (savR_sp hn4 hs64) (by decide)) ?_
     rintro v44 w ⟨vs, its, hV, hS⟩
     have hVw := hV w fun it hi => hS.inpack (M := its) (by simp) hi
     have hvl : vs.length = l.length := hVw.1.trans (runK_len _)
     obtain ⟨av, cv, rfl⟩ := row_shape (hS.row v44)
     obtain ⟨gv, rfl, -⟩ := row_get (hS.row (.slice av vs.length cv)) (by omega)
     obtain ⟨vx, hvx⟩ : ∃ v, vs[jn]? = some v := ⟨_, List.getElem?_eq_getElem (show jn < vs.length by omega)⟩
     obtain ⟨avx, cvx, rfl, -⟩ := slv_at hVw hvx
     refine sv (yAsg rfl) ?_
     refine nil ?_
     show Code.wp _ _ _ _ _
     refine seq ?_
     refine region ?_
     refine sv (yMove rfl) ?_
     refine sv (yMove h2) ?_
     refine sv (yIx0 (m := jn) rfl rfl Tryz.runUnderlying39 Tryz.sizeOf25 (by omega)) ?_
     refine sv (yLd rfl Tryz.isAgg25 (out_cell (row_at (hS.row (.slice (some ⟨gv, 0, none⟩) vs.length cv)) rfl (by omega)) hvx)) ?_
     refine sv (yLen rfl Tryz.underlying25) ?_
     refine sv (yEql rfl rfl) ?_
     refine nil ?_
     show Code.wp _ _ _ _ _
     refine cond rfl (fun c50 => ?_) (fun c50 => ?_)
     ·
      simp only [BS, ne_eq] at c50
      have hb : savB l (setV l z1) (jn : Int) n i = true := beq_iff_eq.2 (by simpa using c50)
      refine region ?_
      refine sv (yMove h13) ?_
      refine sv (yLdB rfl Tryz.isAgg3 (hS.at _) rfl) ?_
      refine sbslice hS Tryz.underlying26 Tryz.sizeOf3 rfl Tryz.zeroValue3 rfl (.cons rfl rfl .nil) rfl ?_; clear hS; intro b53 w hS
      refine sapp (bytes := 8) (size := 1) (v := ov) (m := 1) hS rfl rfl Tryz.underlying26 ti3 rfl rfl rfl rfl (by decide) (blk_cells (hS.at _)) rfl rfl (by omega) (by omega) ?_; clear hS; intro v54 w hS
      refine sv (yAsg rfl) ?_
      refine nil ?_
      exact ⟨_, rfl, _, h2, h7, h10, h11, rfl, h36, h37, h38, (by rw [sav_yes hx hb, List.flatMap_append, List.length_append]; exact hS.sub (.cons _ (.cons _ (.cons _ (.cons_cons _ (.cons_cons _ (.cons_cons _ (.cons _ (List.Sublist.refl _))))))))), trivial⟩
     ·
      simp only [BS, ne_eq] at c50
      have hb : savB l (setV l z1) (jn : Int) n i = false := by unfold savB; exact beq_eq_false_iff_ne.2 (by simpa using c50)
      refine skip ?_
      exact ⟨_, rfl, ov, h2, h7, h10, h11, h13, h36, h37, h38, (by rw [sav_no hx hb]; exact hS.sub (.cons _ (.cons _ (.cons_cons _ (.cons_cons _ (.cons_cons _ (.cons _ (List.Sublist.refl _)))))))), trivial⟩
    ·
     clear hS; rintro f w ⟨ov, h2, h7, h10, h11, h13, h36, h37, h38, hS, -⟩
     refine region ?_
     refine sv (yAdd h38 rfl ⟨by omega, by omega⟩) ?_
     refine sv (yMove rfl) ?_
     refine nil ?_
     exact ⟨_, _, rfl, ⟨k + 1, ov, h2, h7, h10, h11, h13, h36, h37, rfl, hS, (by omega), rfl⟩, by omega⟩
   ·
    simp only [BS, ne_eq] at c39
    obtain rfl : k = (bitsL (setV l z1)).length := by omega
    rw [List.take_length] at hS
    refine exit ?_
    show Code.wp _ _ _ _ _
    refine seq ?_
    refine region ?_
    refine sv (yMove h13) ?_
    refine sv (yAsg rfl) ?_
    refine sv (yAsg rfl) ?_
    refine nil ?_
    show Code.wp _ _ _ _ _
    refine wp_ret ?_
    refine retQ (res2 rfl rfl rfl) ?_
    exact ⟨_, rfl, hS.sub (.cons _ (.cons _ (.cons _ (.cons_cons _ (List.nil_sublist _)))))⟩
end Go.Proofs.YtbbpiebhnbhbiaaGreat
namespace Bx
open Go Go.RowKit
def exN1 : Nod := ⟨⟨#[109, 97, 105, 110, 115]⟩, 1, [], 0, 0⟩
def exN2 : Nod := ⟨⟨#[100, 105, 101, 115, 101, 108]⟩, 1, [], 0, 0⟩
def exN3 : Nod := ⟨⟨#[112, 117, 109, 112]⟩, 1, [], 0, 0⟩
def exN4 : Nod := ⟨⟨#[108, 105, 110, 107]⟩, 1, [], 0, 0⟩
def exN5 : Nod := ⟨⟨#[112, 111, 119, 101, 114]⟩, 2, [0, 1], 0, 3⟩
def exN6 : Nod := ⟨⟨#[100, 114, 105, 118, 101]⟩, 3, [2, 4], 0, 0⟩
def exN7 : Nod := ⟨⟨#[98, 108, 105, 110, 100]⟩, 3, [3], 0, 0⟩
def exN8 : Nod := ⟨⟨#[115, 116, 117, 99, 107]⟩, 4, [5, 6, 0], 2, 0⟩
def exN : List Nod := [exN1, exN2, exN3, exN4, exN5, exN6, exN7, exN8]
def insJ (x : Int) : List Int → List Int
 | [] => [x]
 | y :: p => if x ≤ y then x :: y :: p else y :: insJ x p
def isoI : List Int → List Int
 | [] => []
 | x :: l => insJ x (isoI l)
theorem insJ_perm (x : Int) : ∀ p : List Int, (insJ x p).Perm (x :: p)
  | [] => .refl _
  | y :: p => by
    rw [insJ]
    split
    · exact .refl _
    · exact ((insJ_perm x p).cons y).trans (List.Perm.swap x y p)
theorem isoI_perm : ∀ l : List Int, (isoI l).Perm l
 | [] => .refl _
 | x :: l => (insJ_perm x _).trans ((isoI_perm l).cons x)
theorem insJ_asc (x : Int) : ∀ p : List Int, p.Pairwise (· ≤ ·) → (insJ x p).Pairwise (· ≤ ·)
  | [], _ => by simp [insJ]
  | y :: p, h => by
    rw [insJ]
    have h1 := List.pairwise_cons.1 h
    split
    next k => exact List.pairwise_cons.2 ⟨fun z hz => by rcases List.mem_cons.1 hz with rfl | hz; exact k; have := h1.1 z hz; omega, h⟩
    next k => exact List.pairwise_cons.2 ⟨fun z hz => by rcases List.mem_cons.1 ((insJ_perm x p).mem_iff.1 hz) with rfl | hz; omega; exact h1.1 z hz, insJ_asc x p h1.2⟩
theorem isoI_asc : ∀ l : List Int, (isoI l).Pairwise (· ≤ ·)
 | [] => .nil
 | x :: l => insJ_asc x _ (isoI_asc l)
theorem iso_eq (l : List Int) : sortI l = isoI l := asc_eq (sortI_asc l) (isoI_asc l) ((sortI_perm l).trans (isoI_perm l).symm)
def nodX (l : List Nod) (i : Nat) : Int :=
 if (!isName (nd l i).name) = true then 6
 else if ((l.take i).any fun y => decide (y.name = (nd l i).name)) = true then 5
 else if outB (nd l i).kind 1 4 = true then 2
 else if outB (nd l i).inp.length (leaN (nd l i)) (mosN (nd l i)) = true then 3
 else if ((nd l i).inp.any fun n => outB n 0 ((i : Int) - 1)) = true then 4
 else if ((compL (isoI (nd l i).inp)).length : Int) < (nd l i).inp.length then 5
 else if lasB (nd l i) = true then 7 else 0
theorem nod_eq : nodE = nodX := by funext l i; unfold nodE nodX; rw [iso_eq]
def chkX (l : List Nod) : Int := if outB l.length 1 40 = true then 3 else if fstE (nodX l) (List.range l.length) ≠ 0 then fstE (nodX l) (List.range l.length) else if outB (basN l) 1 10 = true then 3 else 0
theorem chk_eq (l : List Nod) : chkF l = chkX l := by unfold chkF chkX; rw [nod_eq]
def abX (l : List Nod) (node : Int) (ls : List (List Int)) : Int := if chkX l ≠ 0 then chkX l else if outB node 0 ((l.length : Int) - 1) = true then 4 else fstE (setE l) ls
theorem ab_eq (l : List Nod) (node : Int) (ls : List (List Int)) : abE l node ls = abX l node ls := by unfold abE abX; rw [chk_eq]
def lefX (l : List Nod) (es : Nat) : Nat → List Int
 | 0 => List.replicate l.length 0
 | k + 1 => if needF (nd l k) ≤ ((lefT es (lefX l es k) (nd l k).inp).length : Int) then (lefX l es k).set k ((isoI (lefT es (lefX l es k) (nd l k).inp)).getD (needF (nd l k) - 1).toNat 0 + (nd l k).hold) else lefX l es k
theorem lef_eq {l : List Nod} {es : Nat} : ∀ k, lefS l es k = lefX l es k
 | 0 => rfl
 | k + 1 => by rw [lefS, lefX, lefN, iso_eq, lef_eq k]
theorem exN_ab1 : abE exN 7 [] = 0 := by rw [ab_eq]; decide +kernel
theorem exN_ab2 : abE exN 7 [[0, 1]] = 0 := by rw [ab_eq]; decide +kernel
theorem exN_ab3 : abE exN 5 [[0, 1]] = 0 := by rw [ab_eq]; decide +kernel
theorem exN_ab4 : abE exN 0 [[4]] = 4 := by rw [ab_eq]; decide +kernel
theorem exN_fnd : (fndP (fun s => (effF exN s).testBit (7 : Int).toNat) (subL (basF exN))).length ≤ 12 := by decide +kernel
theorem exN_cau : leaQ (fun s => (effF exN s).testBit (7 : Int).toNat) (basF exN) = [[0, 1], [0, 2], [0, 3], [2, 3]] := by decide +kernel
theorem exN_lef : (effF exN (setV exN [0, 1])).testBit (7 : Int).toNat = true ∧ lefF exN [0, 1] 7 = 3 := by unfold lefF; rw [lef_eq]; decide +kernel
theorem exN_sav : savL exN [0, 1] 5 3 = [0, 1] := by decide +kernel
theorem StX.packAll {S : List Nat} {w0 w : World} {L : List Item} (h : StX S w0 w L) : StX S w0 w [packI L] := StX.pack (L := []) (by rw [List.append_nil]; exact h)
end Bx
namespace Go.Proofs.YtbbpiebhnbhbiaaGreat
open Go Bx
/-- barrage/barrageref02.Ints -/
theorem c_Ints {va vb : Value} {a b : List Int} {w0 : World} (ha : Sl w0 1 RInt va a) (hb : Sl w0 1 RInt vb b) : CV Tryz.prog 22 #[va, vb] w0 (.bool (decide (a = b))) := by
 obtain ⟨aa, ca, rfl, hacap, hamx, -⟩ := id ha
 obtain ⟨ab, cb, rfl, -⟩ := id hb
 refine enter Tryz.func22 rfl Tryz.ntmps22 rfl ?_
 have hS := St.start w0
 refine seq ?_
 refine region ?_
 refine sv (yAsg rfl) ?_
 refine nil ?_
 show Code.wp _ _ _ _ _
 refine seq ?_
 refine seq ?_
 refine region ?_
 refine sv (yMove rfl) ?_
 refine sv (yLen rfl Tryz.underlying26) ?_
 refine sv (yMove rfl) ?_
 refine sv (yLen rfl Tryz.underlying26) ?_
 refine sv (yNeq rfl rfl) ?_
 refine nil ?_
 show Code.wp _ _ _ _ _
 refine cond rfl (fun c10 => ?_) (fun c10 => ?_)
 ·
  simp only [BS, ne_eq] at c10
  refine seq ?_
  refine region ?_
  refine sv (yAsg rfl) ?_
  refine nil ?_
  show Code.wp _ _ _ _ _
  refine wp_ret (thenR ?_)
  exact retV (res1 rfl (congrArg Value.bool (show false = decide (a = b) from (decide_eq_false (fun e => by rw [e] at c10; exact c10 rfl)).symm))) hS.ext
 ·
  simp only [BS, ne_eq] at c10
  have hl : a.length = b.length := by omega
  refine skip ?_
  show Code.wp _ _ _ _ _
  refine seq ?_
  refine seq ?_
  refine region ?_
  refine sv (yAsg rfl) ?_
  refine nil ?_
  show Code.wp _ _ _ _ _
  refine block ?_
  refine loop (fun f w zz => ∃ (k : Nat), f 0 = .slice aa a.length ca ∧ f 1 = .slice ab b.length cb ∧ f 5 = .int .i64 (k : Int) ∧ StX [] w0 w [] ∧ (k ≤ a.length) ∧ (∀ i, i < k → a[i]? = b[i]?) ∧ zz = a.length - k) _ ⟨_, rfl, 0, rfl, rfl, rfl, hS, (Nat.zero_le _), (fun i hi => absurd hi (Nat.not_lt_zero _)), rfl⟩ ?_
  clear hS
  rintro f w _ ⟨k, h0, h1, h5, hS, hk, hA, rfl⟩
  refine seq ?_
  refine seq ?_
  refine region ?_
  refine sv (yMove h5) ?_
  refine sv (yMove h0) ?_
  refine sv (yLen rfl Tryz.underlying26) ?_
  refine sv (yLss rfl rfl) ?_
  refine nil ?_
  show Code.wp _ _ _ _ _
  refine cond rfl (fun c14 => ?_) (fun c14 => ?_)
  ·
   simp only [BS, ne_eq] at c14
   have hkl : k < a.length := by omega
   obtain ⟨bx, ox, cx, hax, hlx, hcx, hRx, -⟩ := sl_at ha (show a[k]? = some (a.getD k 0) by simp [hkl])
   obtain ⟨rfl, -⟩ := hRx
   obtain ⟨by0, oy, cy, hay, hly, hcy, hRy, -⟩ := sl_at hb (show b[k]? = some (b.getD k 0) by simp [show k < b.length by omega])
   obtain ⟨rfl, -⟩ := hRy
   refine skip ?_
   show Code.wp _ _ _ _ _
   refine seq ?_
   refine block ?_
   refine seq ?_
   refine region_draw mixed (by kernel_rfl) hS ?_
   refine qv (fun w hS => (yMove h0)) ?_
   refine qv (fun w hS => (yMove h5)) ?_
   refine qv (fun w hS => (yIxa rfl hax rfl Tryz.runUnderlying26 Tryz.sizeOf3 (by omega) (by omega))) ?_
   refine qv (fun w hS => (yLd rfl Tryz.isAgg3 (hcx.ext hS.ext).one)) ?_
   refine qv (fun w hS => (yMove h1)) ?_
   refine qv (fun w hS => (yMove h5)) ?_
   refine qv (fun w hS => (yIxa rfl hay rfl Tryz.runUnderlying26 Tryz.sizeOf3 (by omega) (by omega))) ?_
   refine qv (fun w hS => (yLd rfl Tryz.isAgg3 (hcy.ext hS.ext).one)) ?_
   refine qv (fun w hS => (yNeq rfl rfl)) ?_
   clear hS; refine qnil (fun w hS => ?_)
   show Code.wp _ _ _ _ _
   refine cond rfl (fun c25 => ?_) (fun c25 => ?_)
   ·
    simp only [BS, ne_eq] at c25
    refine seq ?_
    refine region ?_
    refine sv (yAsg rfl) ?_
    refine nil ?_
    show Code.wp _ _ _ _ _
    refine wp_ret (blockR (thenR (thenR (blockR (thenR ?_)))))
    exact retV (res1 rfl (congrArg Value.bool (show false = decide (a = b) from (decide_eq_false (fun e => by rw [e] at c25; exact c25 rfl)).symm))) hS.ext
   ·
    simp only [BS, ne_eq] at c25
    refine skip ?_
    show Code.wp _ _ _ _ _
    refine region ?_
    refine sv (yMove h5) ?_
    refine sv (yAdd rfl rfl ⟨by omega, by omega⟩) ?_
    refine sv (yAsg rfl) ?_
    refine nil ?_
    exact ⟨_, _, rfl, ⟨k + 1, h0, h1, rfl, hS, (by omega), (fun i hi => by
     by_cases e : i = k
     ·
      subst e
      rw [List.getElem?_eq_getElem hkl, List.getElem?_eq_getElem (show i < b.length by omega)]
      have e1 : a.getD i 0 = a[i] := by simp [hkl]
      have e2 : b.getD i 0 = b[i] := by simp [show i < b.length by omega]
      congr 1; omega
     ·
      exact hA i (by omega)), rfl⟩, by omega⟩
  ·
   simp only [BS, ne_eq] at c14
   obtain rfl : k = a.length := by omega
   refine exit ?_
   show Code.wp _ _ _ _ _
   refine seq ?_
   refine region ?_
   refine sv (yAsg rfl) ?_
   refine nil ?_
   show Code.wp _ _ _ _ _
   refine wp_ret ?_
   exact retV (res1 rfl (congrArg Value.bool (show true = decide (a = b) from (decide_eq_true (eq_of_get hl hA)).symm))) hS.ext
/-- barrage/barrageref09.SameSets -/
theorem c_SameT {va vb : Value} {ls : List (List Int)} {w0 : World} (ha : Sl w0 1 RIl va ls) (hb : Sl w0 1 RIl vb ls) : CV Tryz.prog 21 #[va, vb] w0 (.bool true) := by
 obtain ⟨aa, ca, rfl, hacap, hamx, -⟩ := id ha
 obtain ⟨ab, cb, rfl, -⟩ := id hb
 refine enter Tryz.func21 rfl Tryz.ntmps21 rfl ?_
 have hS := St.start w0
 refine seq ?_
 refine region ?_
 refine sv (yAsg rfl) ?_
 refine nil ?_
 show Code.wp _ _ _ _ _
 refine seq ?_
 refine seq ?_
 refine region ?_
 refine sv (yMove rfl) ?_
 refine sv (yLen rfl Tryz.underlying69) ?_
 refine sv (yMove rfl) ?_
 refine sv (yLen rfl Tryz.underlying69) ?_
 refine sv (yNeq rfl rfl) ?_
 refine nil ?_
 show Code.wp _ _ _ _ _
 refine cond rfl (fun c11 => ?_) (fun c11 => ?_)
 ·
  simp only [BS, ne_eq] at c11
  done
 ·
  simp only [BS, ne_eq] at c11
  refine skip ?_
  show Code.wp _ _ _ _ _
  refine seq ?_
  refine seq ?_
  refine region ?_
  refine sv (yAsg rfl) ?_
  refine nil ?_
  show Code.wp _ _ _ _ _
  refine block ?_
  refine loop (fun f w zz => ∃ (k : Nat), f 0 = .slice aa ls.length ca ∧ f 1 = .slice ab ls.length cb ∧ f 5 = .int .i64 (k : Int) ∧ StX [] w0 w [] ∧ (k ≤ ls.length) ∧ zz = ls.length - k) _ ⟨_, rfl, 0, rfl, rfl, rfl, hS, (Nat.zero_le _), rfl⟩ ?_
  clear hS
  rintro f w _ ⟨k, h0, h1, h5, hS, hk, rfl⟩
  refine seq ?_
  refine seq ?_
  refine region ?_
  refine sv (yMove h5) ?_
  refine sv (yMove h0) ?_
  refine sv (yLen rfl Tryz.underlying69) ?_
  refine sv (yLss rfl rfl) ?_
  refine nil ?_
  show Code.wp _ _ _ _ _
  refine cond rfl (fun c15 => ?_) (fun c15 => ?_)
  ·
   simp only [BS, ne_eq] at c15
   obtain ⟨z, hx, hd⟩ := drop_of (l := ls) (k := k) (by omega)
   obtain ⟨bp, op, cp, hap, -, hcp, hRp, -⟩ := sl_at ha hx
   obtain ⟨zp, rfl, hzp⟩ := hRp
   obtain ⟨azp, czp, rfl, -⟩ := id hzp
   obtain ⟨bq, oq, cq, haq, -, hcq, hRq, -⟩ := sl_at hb hx
   obtain ⟨zq, rfl, hzq⟩ := hRq
   obtain ⟨azq, czq, rfl, -⟩ := id hzq
   obtain ⟨_, _, hzv, hzcap, hzmx, -⟩ := id hzp
   refine skip ?_
   show Code.wp _ _ _ _ _
   refine seq ?_
   refine block ?_
   refine seq ?_
   refine seq ?_
   refine region_draw mixed (by kernel_rfl) hS ?_
   refine qv (fun w hS => (yMove h0)) ?_
   refine qv (fun w hS => (yMove h5)) ?_
   refine qv (fun w hS => (yIxa rfl hap rfl Tryz.runUnderlying69 Tryz.sizeOf26 (by omega) (by omega))) ?_
   refine qv (fun w hS => (yLd rfl Tryz.isAgg26 (hcp.ext hS.ext).one)) ?_
   refine qv (fun w hS => (yLen rfl Tryz.underlying26)) ?_
   refine qv (fun w hS => (yMove h1)) ?_
   refine qv (fun w hS => (yMove h5)) ?_
   refine qv (fun w hS => (yIxa rfl haq rfl Tryz.runUnderlying69 Tryz.sizeOf26 (by omega) (by omega))) ?_
   refine qv (fun w hS => (yLd rfl Tryz.isAgg26 (hcq.ext hS.ext).one)) ?_
   refine qv (fun w hS => (yLen rfl Tryz.underlying26)) ?_
   refine qv (fun w hS => (yNeq rfl rfl)) ?_
   clear hS; refine qnil (fun w hS => ?_)
   show Code.wp _ _ _ _ _
   refine cond rfl (fun c28 => ?_) (fun c28 => ?_)
   ·
    simp only [BS, ne_eq] at c28
    done
   ·
    simp only [BS, ne_eq] at c28
    refine skip ?_
    show Code.wp _ _ _ _ _
    refine seq ?_
    refine region ?_
    refine sv (yAsg rfl) ?_
    refine nil ?_
    show Code.wp _ _ _ _ _
    refine block ?_
    refine loop (fun f w zz => ∃ (j : Nat), f 0 = .slice aa ls.length ca ∧ f 1 = .slice ab ls.length cb ∧ f 5 = .int .i64 (k : Int) ∧ f 6 = .int .i64 (j : Int) ∧ StX [] w0 w [] ∧ (j ≤ z.length) ∧ zz = z.length - j) _ ⟨_, rfl, 0, h0, h1, h5, rfl, hS, (Nat.zero_le _), rfl⟩ ?_
    clear hS
    rintro f w _ ⟨j, h0, h1, h5, h6, hS, hj, rfl⟩
    refine seq ?_
    refine seq ?_
    refine region ?_
    refine sv (yMove h6) ?_
    refine sv (yMove h0) ?_
    refine sv (yMove h5) ?_
    refine sv (yIxa rfl hap rfl Tryz.runUnderlying69 Tryz.sizeOf26 (by omega) (by omega)) ?_
    refine sv (yLd rfl Tryz.isAgg26 (hcp.ext hS.ext).one) ?_
    refine sv (yLen rfl Tryz.underlying26) ?_
    refine sv (yLss rfl rfl) ?_
    refine nil ?_
    show Code.wp _ _ _ _ _
    refine cond rfl (fun c35 => ?_) (fun c35 => ?_)
    ·
     simp only [BS, ne_eq] at c35
     obtain ⟨y, hy, hd2⟩ := drop_of (l := z) (k := j) (by omega)
     obtain ⟨bs, os, cs, has, -, hcs, hRs, -⟩ := sl_at hzp hy
     obtain ⟨rfl, -⟩ := hRs
     obtain ⟨bt, ot, ct, hat, -, hct, hRt, -⟩ := sl_at hzq hy
     obtain ⟨rfl, -⟩ := hRt
     refine skip ?_
     show Code.wp _ _ _ _ _
     refine seq ?_
     refine block ?_
     refine seq ?_
     refine region_draw mixed (by kernel_rfl) hS ?_
     refine qv (fun w hS => (yMove h0)) ?_
     refine qv (fun w hS => (yMove h5)) ?_
     refine qv (fun w hS => (yIxa rfl hap rfl Tryz.runUnderlying69 Tryz.sizeOf26 (by omega) (by omega))) ?_
     refine qv (fun w hS => (yLd rfl Tryz.isAgg26 (hcp.ext hS.ext).one)) ?_
     refine qv (fun w hS => (yMove h6)) ?_
     refine qv (fun w hS => (yIxa rfl has rfl Tryz.runUnderlying26 Tryz.sizeOf3 (by omega) (by omega))) ?_
     refine qv (fun w hS => (yLd rfl Tryz.isAgg3 (hcs.ext hS.ext).one)) ?_
     refine qv (fun w hS => (yMove h1)) ?_
     refine qv (fun w hS => (yMove h5)) ?_
     refine qv (fun w hS => (yIxa rfl haq rfl Tryz.runUnderlying69 Tryz.sizeOf26 (by omega) (by omega))) ?_
     refine qv (fun w hS => (yLd rfl Tryz.isAgg26 (hcq.ext hS.ext).one)) ?_
     refine qv (fun w hS => (yMove h6)) ?_
     refine qv (fun w hS => (yIxa rfl hat rfl Tryz.runUnderlying26 Tryz.sizeOf3 (by omega) (by omega))) ?_
     refine qv (fun w hS => (yLd rfl Tryz.isAgg3 (hct.ext hS.ext).one)) ?_
     refine qv (fun w hS => (yNeq rfl rfl)) ?_
     clear hS; refine qnil (fun w hS => ?_)
     show Code.wp _ _ _ _ _
     refine cond rfl (fun c52 => ?_) (fun c52 => ?_)
     ·
      simp only [BS, ne_eq] at c52
      done
     ·
      simp only [BS, ne_eq] at c52
      refine skip ?_
      show Code.wp _ _ _ _ _
      refine region ?_
      refine sv (yMove h6) ?_
      refine sv (yAdd rfl rfl ⟨by omega, by omega⟩) ?_
      refine sv (yAsg rfl) ?_
      refine nil ?_
      exact ⟨_, _, rfl, ⟨j + 1, h0, h1, h5, rfl, hS, (by omega), rfl⟩, by omega⟩
    ·
     simp only [BS, ne_eq] at c35
     obtain rfl : j = z.length := by omega
     refine exit ?_
     show Code.wp _ _ _ _ _
     refine region ?_
     refine sv (yMove h5) ?_
     refine sv (yAdd rfl rfl ⟨by omega, by omega⟩) ?_
     refine sv (yAsg rfl) ?_
     refine nil ?_
     exact ⟨_, _, rfl, ⟨k + 1, h0, h1, rfl, hS, (by omega), rfl⟩, by omega⟩
  ·
   simp only [BS, ne_eq] at c15
   obtain rfl : k = ls.length := by omega
   refine exit ?_
   show Code.wp _ _ _ _ _
   refine seq ?_
   refine region ?_
   refine sv (yAsg rfl) ?_
   refine nil ?_
   show Code.wp _ _ _ _ _
   refine wp_ret ?_
   exact retV (res1 rfl rfl) hS.ext
/-- barrage/barragelaw09.Example -/
theorem c_Example {w0 : World} : CE Tryz.prog 17 #[] w0 (fun u w' => ∃ v its, u = .agg [v].toArray ∧ (∀ w2 : World, (∀ it ∈ its, it.ok w2) → Sl w2 5 RNod v exN) ∧ St w0 w' [packI its]) := by
 refine enter Tryz.func17 rfl Tryz.ntmps17 rfl ?_
 have hS := St.start w0
 refine seq ?_
 refine region ?_
 refine salloc hS Tryz.zeroValue24 rfl ?_; clear hS; intro b0 w hS
 refine nil ?_
 show Code.wp _ _ _ _ _
 refine seq ?_
 refine region ?_
 refine sv (v := Value.agg ([.string ⟨#[109, 97, 105, 110, 115]⟩, .int .i64 1, .slice none 0 0, .int .i64 0, .int .i64 0] : List Value).toArray) (yBuild Tryz.zeroValue96 rfl pl96 (.cons rfl rfl (.cons rfl rfl .nil)) rfl) ?_
 refine sv (v := Value.agg ([.string ⟨#[100, 105, 101, 115, 101, 108]⟩, .int .i64 1, .slice none 0 0, .int .i64 0, .int .i64 0] : List Value).toArray) (yBuild Tryz.zeroValue96 rfl pl96 (.cons rfl rfl (.cons rfl rfl .nil)) rfl) ?_
 refine sv (v := Value.agg ([.string ⟨#[112, 117, 109, 112]⟩, .int .i64 1, .slice none 0 0, .int .i64 0, .int .i64 0] : List Value).toArray) (yBuild Tryz.zeroValue96 rfl pl96 (.cons rfl rfl (.cons rfl rfl .nil)) rfl) ?_
 refine sv (v := Value.agg ([.string ⟨#[108, 105, 110, 107]⟩, .int .i64 1, .slice none 0 0, .int .i64 0, .int .i64 0] : List Value).toArray) (yBuild Tryz.zeroValue96 rfl pl96 (.cons rfl rfl (.cons rfl rfl .nil)) rfl) ?_
 refine sbslice hS Tryz.underlying26 Tryz.sizeOf3 rfl Tryz.zeroValue3 rfl (.cons rfl rfl (.cons rfl rfl .nil)) rfl ?_; clear hS; intro b5 w hS
 refine sv (v := Value.agg ([.string ⟨#[112, 111, 119, 101, 114]⟩, .int .i64 2, .slice (some ⟨b5, 0, none⟩) 2 2, .int .i64 0, .int .i64 3] : List Value).toArray) (yBuild Tryz.zeroValue96 rfl pl96 (.cons rfl rfl (.cons rfl rfl (.cons rfl rfl (.cons rfl rfl .nil)))) rfl) ?_
 refine sbslice hS Tryz.underlying26 Tryz.sizeOf3 rfl Tryz.zeroValue3 rfl (.cons rfl rfl (.cons rfl rfl .nil)) rfl ?_; clear hS; intro b7 w hS
 refine sv (v := Value.agg ([.string ⟨#[100, 114, 105, 118, 101]⟩, .int .i64 3, .slice (some ⟨b7, 0, none⟩) 2 2, .int .i64 0, .int .i64 0] : List Value).toArray) (yBuild Tryz.zeroValue96 rfl pl96 (.cons rfl rfl (.cons rfl rfl (.cons rfl rfl .nil))) rfl) ?_
 refine sbslice hS Tryz.underlying26 Tryz.sizeOf3 rfl Tryz.zeroValue3 rfl (.cons rfl rfl .nil) rfl ?_; clear hS; intro b9 w hS
 refine sv (v := Value.agg ([.string ⟨#[98, 108, 105, 110, 100]⟩, .int .i64 3, .slice (some ⟨b9, 0, none⟩) 1 1, .int .i64 0, .int .i64 0] : List Value).toArray) (yBuild Tryz.zeroValue96 rfl pl96 (.cons rfl rfl (.cons rfl rfl (.cons rfl rfl .nil))) rfl) ?_
 refine sbslice hS Tryz.underlying26 Tryz.sizeOf3 rfl Tryz.zeroValue3 rfl (.cons rfl rfl (.cons rfl rfl (.cons rfl rfl .nil))) rfl ?_; clear hS; intro b11 w hS
 refine sv (v := Value.agg ([.string ⟨#[115, 116, 117, 99, 107]⟩, .int .i64 4, .slice (some ⟨b11, 0, none⟩) 3 3, .int .i64 2, .int .i64 0] : List Value).toArray) (yBuild Tryz.zeroValue96 rfl pl96 (.cons rfl rfl (.cons rfl rfl (.cons rfl rfl (.cons rfl rfl .nil)))) rfl) ?_
 refine sbslice hS Tryz.underlying22 Tryz.sizeOf96 rfl Tryz.zeroValue96 rfl (.cons rfl rfl (.cons rfl rfl (.cons rfl rfl (.cons rfl rfl (.cons rfl rfl (.cons rfl rfl (.cons rfl rfl (.cons rfl rfl .nil)))))))) rfl ?_; clear hS; intro b13 w hS
 replace hS : StX [] w0 w (blk b13 [.string ⟨#[109, 97, 105, 110, 115]⟩, .int .i64 1, .slice none 0 0, .int .i64 0, .int .i64 0, .string ⟨#[100, 105, 101, 115, 101, 108]⟩, .int .i64 1, .slice none 0 0, .int .i64 0, .int .i64 0, .string ⟨#[112, 117, 109, 112]⟩, .int .i64 1, .slice none 0 0, .int .i64 0, .int .i64 0, .string ⟨#[108, 105, 110, 107]⟩, .int .i64 1, .slice none 0 0, .int .i64 0, .int .i64 0, .string ⟨#[112, 111, 119, 101, 114]⟩, .int .i64 2, .slice (some ⟨b5, 0, none⟩) 2 2, .int .i64 0, .int .i64 3, .string ⟨#[100, 114, 105, 118, 101]⟩, .int .i64 3, .slice (some ⟨b7, 0, none⟩) 2 2, .int .i64 0, .int .i64 0, .string ⟨#[98, 108, 105, 110, 100]⟩, .int .i64 3, .slice (some ⟨b9, 0, none⟩) 1 1, .int .i64 0, .int .i64 0, .string ⟨#[115, 116, 117, 99, 107]⟩, .int .i64 4, .slice (some ⟨b11, 0, none⟩) 3 3, .int .i64 2, .int .i64 0] 96 :: _) := hS
 refine sv (yBuild Tryz.zeroValue24 rfl pl24 (.cons rfl rfl .nil) rfl) ?_
 refine sst hS rfl rfl Tryz.sizeOf24 rfl rfl rfl rfl ?_; clear hS; intro w hS
 refine nil ?_
 show Code.wp _ _ _ _ _
 refine wp_ret ?_
 refine retQ (resV1 rfl (rc rfl Tryz.isAgg24 Tryz.sizeOf24 (hS.at b0) rfl rfl)) ?_
 refine ⟨_, _, rfl, ?_, hS.packAll⟩
 intro w2 h2
 exact (show Sl w2 5 RNod (.slice (some ⟨b13, 0, none⟩) 8 8) ([exN1, exN2, exN3, exN4, exN5, exN6, exN7, exN8] : List Nod) from sl_of_blk (blk_ok (h2 _ (.head _))) (css := [[.string ⟨#[109, 97, 105, 110, 115]⟩, .int .i64 1, .slice none 0 0, .int .i64 0, .int .i64 0], [.string ⟨#[100, 105, 101, 115, 101, 108]⟩, .int .i64 1, .slice none 0 0, .int .i64 0, .int .i64 0], [.string ⟨#[112, 117, 109, 112]⟩, .int .i64 1, .slice none 0 0, .int .i64 0, .int .i64 0], [.string ⟨#[108, 105, 110, 107]⟩, .int .i64 1, .slice none 0 0, .int .i64 0, .int .i64 0], [.string ⟨#[112, 111, 119, 101, 114]⟩, .int .i64 2, .slice (some ⟨b5, 0, none⟩) 2 2, .int .i64 0, .int .i64 3], [.string ⟨#[100, 114, 105, 118, 101]⟩, .int .i64 3, .slice (some ⟨b7, 0, none⟩) 2 2, .int .i64 0, .int .i64 0], [.string ⟨#[98, 108, 105, 110, 100]⟩, .int .i64 3, .slice (some ⟨b9, 0, none⟩) 1 1, .int .i64 0, .int .i64 0], [.string ⟨#[115, 116, 117, 99, 107]⟩, .int .i64 4, .slice (some ⟨b11, 0, none⟩) 3 3, .int .i64 2, .int .i64 0]]) (l := ([exN1, exN2, exN3, exN4, exN5, exN6, exN7, exN8] : List Nod)) rfl ⟨rfl, ⟨_, rfl, by decide, Sl.nil⟩, rfl, ⟨_, rfl, by decide, Sl.nil⟩, rfl, ⟨_, rfl, by decide, Sl.nil⟩, rfl, ⟨_, rfl, by decide, Sl.nil⟩, rfl, ⟨_, rfl, by decide, ints_sl (l := [0, 1]) (blk_ok (h2 _ (.tail _ (.tail _ (.tail _ (.tail _ (.head _))))))) (by decide) (by decide)⟩, rfl, ⟨_, rfl, by decide, ints_sl (l := [2, 4]) (blk_ok (h2 _ (.tail _ (.tail _ (.tail _ (.head _)))))) (by decide) (by decide)⟩, rfl, ⟨_, rfl, by decide, ints_sl (l := [3]) (blk_ok (h2 _ (.tail _ (.tail _ (.head _))))) (by decide) (by decide)⟩, rfl, ⟨_, rfl, by decide, ints_sl (l := [5, 6, 0]) (blk_ok (h2 _ (.tail _ (.head _)))) (by decide) (by decide)⟩, trivial⟩ (by decide) rfl)
/-- barrage/barragelaw09.Awake -/
theorem c_Awake {w0 : World} : CV Tryz.prog 6 #[] w0 (.bool true) := by
 refine enter Tryz.func6 rfl Tryz.ntmps6 rfl ?_
 have hS := St.start w0
 refine seq ?_
 refine region ?_
 refine sv (yAsg rfl) ?_
 refine nil ?_
 show Code.wp _ _ _ _ _
 refine seq ?_
 refine region ?_
 refine scall Tryz.call17 .nil c_Example ?_
 rintro _ w ⟨nv1, i1, rfl, hN1, hM⟩; replace hS := hS.call1 hM; clear hM
 refine scall Tryz.call16 (.cons rfl (.cons rfl .nil)) (c_Causes (hN1 _ (fun it hi => hS.inpack (M := i1) (by simp) hi)) exN_ab1 exN_fnd) ?_
 rw [exN_cau]
 rintro _ w ⟨cv, us, its, rfl, hQ, hM⟩; replace hS : StX [] w0 w (rowI cv 26 1 us.length us :: packI its :: [packI i1]) := hS.call hM; clear hM
 refine sv (yMove rfl) ?_
 refine sv (yExt rfl rfl) ?_
 refine sv (yExt rfl rfl) ?_
 refine sv (yAsg rfl) ?_
 refine sv (yAsg rfl) ?_
 refine nil ?_
 show Code.wp _ _ _ _ _
 refine seq ?_
 refine region ?_
 refine scall Tryz.call17 .nil c_Example ?_
 rintro _ w ⟨nv2, i2, rfl, hN2, hM⟩; replace hS := hS.call1 hM; clear hM
 refine sbslice hS Tryz.underlying26 Tryz.sizeOf3 rfl Tryz.zeroValue3 rfl (.cons rfl rfl (.cons rfl rfl .nil)) rfl ?_; clear hS; intro b16 w hS
 refine scall Tryz.call18 (.cons rfl (.cons rfl (.cons rfl .nil))) (c_Left (hN2 _ (fun it hi => hS.inpack (M := i2) (by simp) hi)) (ints_sl (b := b16) (l := [0, 1]) (hS.at b16) (by decide) (by decide)) exN_ab2 exN_lef.1) ?_
 rw [exN_lef.2]
 rintro _ w ⟨rfl, hE⟩; replace hS := hS.step hE; clear hE
 refine sv (yMove rfl) ?_
 refine sv (yExt rfl rfl) ?_
 refine sv (yExt rfl rfl) ?_
 refine sv (yAsg rfl) ?_
 refine sv (yAsg rfl) ?_
 refine nil ?_
 show Code.wp _ _ _ _ _
 refine seq ?_
 refine region ?_
 refine scall Tryz.call17 .nil c_Example ?_
 rintro _ w ⟨nv3, i3, rfl, hN3, hM⟩; replace hS := hS.call1 hM; clear hM
 refine sbslice hS Tryz.underlying26 Tryz.sizeOf3 rfl Tryz.zeroValue3 rfl (.cons rfl rfl (.cons rfl rfl .nil)) rfl ?_; clear hS; intro b22 w hS
 refine scall Tryz.call19 (.cons rfl (.cons rfl (.cons rfl (.cons rfl .nil)))) (c_Saves (hN3 _ (fun it hi => hS.inpack (M := i3) (by simp) hi)) (ints_sl (b := b22) (l := [0, 1]) (hS.at b22) (by decide) (by decide)) exN_ab3 (by decide)) ?_
 rw [exN_sav]
 rintro _ w ⟨sv_, rfl, hM⟩; replace hS := hS.call1 hM; clear hM
 refine sv (yMove rfl) ?_
 refine sv (yExt rfl rfl) ?_
 refine sv (yExt rfl rfl) ?_
 refine sv (yAsg rfl) ?_
 refine sv (yAsg rfl) ?_
 refine nil ?_
 show Code.wp _ _ _ _ _
 refine seq ?_
 refine region ?_
 refine scall Tryz.call17 .nil c_Example ?_
 rintro _ w ⟨nv4, i4, rfl, hN4, hM⟩; replace hS := hS.call1 hM; clear hM
 refine sbslice hS Tryz.underlying26 Tryz.sizeOf3 rfl Tryz.zeroValue3 rfl (.cons rfl rfl .nil) rfl ?_; clear hS; intro b28 w hS
 refine scall Tryz.call20 (.cons rfl (.cons rfl .nil)) (c_Effects (hN4 _ (fun it hi => hS.inpack (M := i4) (by simp) hi)) (ints_sl (b := b28) (l := [4]) (hS.at b28) (by decide) (by decide))) ?_
 rw [exN_ab4]
 rintro _ w ⟨ev_, rfl, hE⟩; replace hS := hS.step hE; clear hE
 refine sv (yMove rfl) ?_
 refine sv (yExt rfl rfl) ?_
 refine sv (yExt rfl rfl) ?_
 refine sv (yAsg rfl) ?_
 refine sv (yAsg rfl) ?_
 refine nil ?_
 show Code.wp _ _ _ _ _
 refine seq ?_
 refine region ?_
 refine sv (yMove rfl) ?_
 refine sv (yEql rfl rfl) ?_
 refine sv (yMove rfl) ?_
 refine ungo rfl rfl rfl ?_
 refine sv (yMove rfl) ?_
 refine ungo rfl rfl rfl ?_
 refine sv (yEql rfl rfl) ?_
 refine sv (yAnd rfl (fun hB => rfl) rfl) ?_
 refine sv (yMove rfl) ?_
 refine ungo rfl rfl rfl ?_
 refine sv (yMove rfl) ?_
 refine ungo rfl rfl rfl ?_
 refine sv (yEql rfl rfl) ?_
 refine sv (yAnd rfl (fun hB => rfl) rfl) ?_
 refine sv (yMove rfl) ?_
 refine ungo rfl rfl rfl ?_
 refine sv (yMove rfl) ?_
 refine ungo rfl rfl rfl ?_
 refine sv (yEql rfl rfl) ?_
 refine sv (yAnd rfl (fun hB => rfl) rfl) ?_
 refine sv (yMove rfl) ?_
 refine ungo rfl rfl rfl ?_
 refine sv (yMove rfl) ?_
 refine ungo rfl rfl rfl ?_
 refine sbslice hS Tryz.underlying26 Tryz.sizeOf3 rfl Tryz.zeroValue3 rfl (.cons rfl rfl (.cons rfl rfl .nil)) rfl ?_; clear hS; intro b48 w hS
 refine ungo rfl rfl rfl ?_
 refine sbslice hS Tryz.underlying26 Tryz.sizeOf3 rfl Tryz.zeroValue3 rfl (.cons rfl rfl (.cons rfl rfl .nil)) rfl ?_; clear hS; intro b49 w hS
 refine ungo rfl rfl rfl ?_
 refine sbslice hS Tryz.underlying26 Tryz.sizeOf3 rfl Tryz.zeroValue3 rfl (.cons rfl rfl (.cons rfl rfl .nil)) rfl ?_; clear hS; intro b50 w hS
 refine ungo rfl rfl rfl ?_
 refine sbslice hS Tryz.underlying26 Tryz.sizeOf3 rfl Tryz.zeroValue3 rfl (.cons rfl rfl (.cons rfl rfl .nil)) rfl ?_; clear hS; intro b51 w hS
 refine ungo rfl rfl rfl ?_
 refine sbslice hS Tryz.underlying69 Tryz.sizeOf26 rfl Tryz.zeroValue26 rfl (.cons rfl rfl (.cons rfl rfl (.cons rfl rfl (.cons rfl rfl .nil)))) rfl ?_; clear hS; intro b52 w hS
 refine ungo rfl rfl rfl ?_
 refine scall Tryz.call21 (.cons rfl (.cons rfl .nil)) (c_SameT (SlI.sl (hS.row cv) (hQ _ (fun it hi => hS.inpack (M := its) (by simp) hi))) (sl_of_blk (hS.at b52) (css := [[.slice (some ⟨b48, 0, none⟩) 2 2], [.slice (some ⟨b49, 0, none⟩) 2 2], [.slice (some ⟨b50, 0, none⟩) 2 2], [.slice (some ⟨b51, 0, none⟩) 2 2]]) (l := [[0, 1], [0, 2], [0, 3], [2, 3]]) rfl ⟨rfl, ⟨_, rfl, (ints_sl (b := b48) (l := [0, 1]) (hS.at b48) (by decide) (by decide))⟩, rfl, ⟨_, rfl, (ints_sl (b := b49) (l := [0, 2]) (hS.at b49) (by decide) (by decide))⟩, rfl, ⟨_, rfl, (ints_sl (b := b50) (l := [0, 3]) (hS.at b50) (by decide) (by decide))⟩, rfl, ⟨_, rfl, (ints_sl (b := b51) (l := [2, 3]) (hS.at b51) (by decide) (by decide))⟩, trivial⟩ (by decide) rfl)) ?_
 rintro _ w ⟨rfl, hE⟩; replace hS := hS.step hE; clear hE
 refine sv (yAnd rfl (fun hB => rfl) rfl) ?_
 refine sv (yMove rfl) ?_
 refine ungo rfl rfl rfl ?_
 refine sv (yMove rfl) ?_
 refine ungo rfl rfl rfl ?_
 refine sv (yEql rfl rfl) ?_
 refine sv (yAnd rfl (fun hB => rfl) rfl) ?_
 refine sv (yMove rfl) ?_
 refine ungo rfl rfl rfl ?_
 refine sv (yMove rfl) ?_
 refine ungo rfl rfl rfl ?_
 refine sbslice hS Tryz.underlying26 Tryz.sizeOf3 rfl Tryz.zeroValue3 rfl (.cons rfl rfl (.cons rfl rfl .nil)) rfl ?_; clear hS; intro b61 w hS
 refine ungo rfl rfl rfl ?_
 refine scall Tryz.call22 (.cons rfl (.cons rfl .nil)) (c_Ints (sl_ints (l := [0, 1]) (hS.row sv_) rfl (by decide)) (ints_sl (b := b61) (l := [0, 1]) (hS.at b61) (by decide) (by decide))) ?_
 rintro _ w ⟨rfl, hE⟩; replace hS := hS.step hE; clear hE
 refine sv (yAnd rfl (fun hB => rfl) rfl) ?_
 refine sv (yAsg rfl) ?_
 refine nil ?_
 show Code.wp _ _ _ _ _
 refine wp_ret ?_
 exact retV (res1 rfl rfl) hS.ext
end Go.Proofs.YtbbpiebhnbhbiaaGreat
namespace Bx
open Go Go.RowKit
structure Pwr where
 tree : List Nod
 spans : List FSp
 power : Int
 guard : List Int
 gate : Gat
 st : GSt
 outer : Int
 inner : Int
abbrev pwrL (x : Pwr) (nv sv uv qo qs : Value) : List Value := [nv, sv, .int .i64 x.power, uv, .string x.gate.name, .int .i64 x.gate.kind, .int .i64 x.gate.travel, qo, .int .i64 x.gate.opn, .int .i64 x.gate.shut, .int .i64 x.gate.height, .int .i64 x.gate.float, .int .i64 x.gate.push, .int .i64 x.gate.slide, .int .i64 x.gate.sfr, .int .i64 x.gate.drive, .int .i64 x.gate.brake, .int .i64 x.gate.speed, .int .i64 x.gate.gravity, .int .i64 x.gate.use, .int .i64 x.gate.pump, .int .i64 x.gate.room, .int .i64 x.gate.slack, qs, .int .i64 x.gate.wrong, .int .i64 x.st.pos, .int .i64 x.st.charge, .bool x.st.bolted, .int .i64 x.outer, .int .i64 x.inner]
structure RPwrP (w : World) (x : Pwr) (nv sv uv qo qs : Value) : Prop where
 tree : Sl w 5 RNod nv x.tree
 spans : Sl w 3 RFsp sv x.spans
 guard : Sl w 1 RInt uv x.guard
 gate : RGatP w x.gate qo qs
 i64 : I64 x.power
 spl : x.spans.length * 24 ≤ 140737488351232
def RPwr (w : World) (cs : List Value) (x : Pwr) : Prop := ∃ nv sv uv qo qs, cs = pwrL x nv sv uv qo qs ∧ RPwrP w x nv sv uv qo qs
def addB (b : List Int) (n : Int) : List Int := if (b.any fun m => decide (m = n)) = true then b else b ++ [n]
def basL (ss : List FSp) : List Int := ss.foldl (fun b s => addB b s.node) []
theorem basL_step {ss : List FSp} {k : Nat} {s : FSp} (h : ss[k]? = some s) : basL (ss.take (k + 1)) = addB (basL (ss.take k)) s.node := by
 unfold basL; rw [take_snoc h, List.foldl_append]; rfl
theorem add_len (b : List Int) (n : Int) : (addB b n).length ≤ b.length + 1 := by unfold addB; split <;> simp
theorem add_mem {b : List Int} {n m : Int} : m ∈ addB b n ↔ m ∈ b ∨ m = n := by
 unfold addB
 split
 next h =>
  obtain ⟨q, hq, e⟩ := List.any_eq_true.1 h
  have : q = n := of_decide_eq_true e
  subst this
  exact ⟨.inl, fun h => h.elim id (fun e => e ▸ hq)⟩
 ·
  simp
theorem basL_snoc (ss : List FSp) (s : FSp) : basL (ss ++ [s]) = addB (basL ss) s.node := by unfold basL; rw [List.foldl_append]; rfl
theorem basL_len (ss : List FSp) : (basL ss).length ≤ ss.length := by
 refine snocI (p := fun ss => (basL ss).length ≤ ss.length) (Nat.le_refl _) (fun l x ih => ?_) ss
 rw [basL_snoc, List.length_append]
 have := add_len (basL l) x.node
 simp only [List.length_singleton]
 omega
theorem basL_mem {ss : List FSp} {s : FSp} (h : s ∈ ss) : s.node ∈ basL ss := by
 revert s
 refine snocI (p := fun ss => ∀ {s : FSp}, s ∈ ss → s.node ∈ basL ss) (fun h => (nomatch h)) (fun l x ih => ?_) ss
 intro s hs
 rw [basL_snoc, add_mem]
 rcases List.mem_append.1 hs with h | h
 ·
  exact .inl (ih h)
 ·
  rw [List.mem_singleton.1 h]; exact .inr rfl
theorem basL_64 {ss : List FSp} (h : ∀ s ∈ ss, I64 s.node) : ∀ n ∈ basL ss, I64 n := by
 revert h
 refine snocI (p := fun ss => (∀ s ∈ ss, I64 s.node) → ∀ n ∈ basL ss, I64 n) (fun _ _ h => (nomatch h)) (fun l x ih => ?_) ss
 intro h n hn
 rw [basL_snoc, add_mem] at hn
 rcases hn with hn | rfl
 ·
  exact ih (fun s hs => h s (List.mem_append_left _ hs)) n hn
 ·
  exact h x (by simp)
theorem any_step {b : List Int} {k : Nat} {x n : Int} (h : b[k]? = some x) : ((b.take (k + 1)).any fun m => decide (m = n)) = (((b.take k).any fun m => decide (m = n)) || decide (x = n)) := by
 rw [take_snoc h, List.any_append]; simp
theorem safe_is {l : List Nod} {node : Int} {ss : List FSp} {z2 : List Int} (hz : abE l node [basL ss, z2] = 0) (hr : raE l ss 30 = 0) (h : provB l node (basL ss) z2 = true) : (runF l (ownR ss 30)).getD node.toNat [] = [] := by
 obtain ⟨hc, hnb, hse⟩ := ab_ok hz
 have hok := fa_ok hc
 have hln := hok.len
 obtain ⟨-, hsl, -, hsp⟩ := ra_ok hr
 have h1 := hse (basL ss) (by simp)
 have h2 := hse z2 (by simp)
 rw [prov_at hz, Bool.and_eq_true] at h
 obtain ⟨h3, h4⟩ := h
 have h3 : ((setV l (basL ss) &&& setV l z2 : Nat) : Int) = 0 := of_decide_eq_true h3
 have h3 : setV l (basL ss) &&& setV l z2 = 0 := by omega
 have hb := fun j => setV_has (l := l) (by omega) h1 j
 have hsub : ∀ j, (setV l (basL ss)).testBit j = true → (dif (basF l) (setV l z2)).testBit j = true := fun j hj => by
  rw [dif_bit (show basF l < _ from basS_lt (by omega)) (setV_lt (by omega) _), Bool.and_eq_true]
  have hj2 := hj
  rw [hb j, decide_eq_true_eq] at hj2
  have h5 := (set_has (by omega) (basL ss) 0 h1).2 _ hj2
  refine ⟨by simpa using h5.2.2, ?_⟩
  have h6 : (setV l (basL ss) &&& setV l z2).testBit j = false := by rw [h3]; simp
  rw [Nat.testBit_and, hj, Bool.true_and] at h6
  rw [h6]; rfl
 have hown := (own_ok (l := l) (by omega) hsp 30 (by decide)).1
 refine Decidable.not_not.1 fun hne => ?_
 have h7 := run_eff (own := ownR ss 30) hok hown (S := setV l (basL ss)) (fun k s hs _ => by
  unfold ownR at hs
  obtain ⟨y, hy, rfl⟩ := List.mem_map.1 hs
  obtain ⟨hy1, hy2⟩ := List.mem_filter.1 hy
  have hy3 : y.node = (k : Int) := of_decide_eq_true hy2
  rw [hb k, decide_eq_true_eq, ← hy3]
  exact basL_mem hy1) l.length (Nat.le_refl _) node.toNat hne
 have h8 : (effF l (dif (basF l) (setV l z2))).testBit node.toNat = true := effS_mono hsub l.length _ h7
 rw [h8] at h4
 exact absurd h4 (by decide)
def dnB (z : List FSp) (t : Int) : Bool := z.any fun s => decide (s.frm ≤ t) && decide (t < s.unt)
theorem dn_step {z : List FSp} {k : Nat} {s : FSp} {t : Int} (h : z[k]? = some s) : dnB (z.take (k + 1)) t = (dnB (z.take k) t || (decide (s.frm ≤ t) && decide (t < s.unt))) := by
 unfold dnB; rw [take_snoc h, List.any_append]; simp
/-- The steps of n ticks, and k more; f: whether there is power. -/
def stL (f : Nat → Bool) (o i : Int) : Nat → Nat → List GSp
 | 0, 0 => []
 | n + 1, 0 => stL f o i n 10
 | n, k + 1 => stL f o i n k ++ [⟨1, f n, o, i⟩]
theorem stL_0 (f : Nat → Bool) (o i : Int) : stL f o i 0 0 = [] := by rw [stL]
theorem stL_len (f : Nat → Bool) (o i : Int) : ∀ n k, (stL f o i n k).length = n * 10 + k
 | 0, 0 => by rw [stL]; rfl
 | n + 1, 0 => by rw [stL, stL_len f o i n 10]; omega
 | 0, k + 1 => by rw [stL, List.length_append, stL_len f o i 0 k]; rfl
 | n + 1, k + 1 => by rw [stL, List.length_append, stL_len f o i (n + 1) k]; rfl
theorem stL_k (f : Nat → Bool) (o i : Int) (n k : Nat) : stL f o i n (k + 1) = stL f o i n k ++ [⟨1, f n, o, i⟩] := by cases n <;> rw [stL]
theorem stL_n (f : Nat → Bool) (o i : Int) (n : Nat) : stL f o i (n + 1) 0 = stL f o i n 10 := by rw [stL]
theorem stL_mem {f : Nat → Bool} {o i : Int} : ∀ n k, ∀ t ∈ stL f o i n k, t.order = 1 ∧ t.outer = o ∧ t.inner = i
  | 0, 0, t, h => by rw [stL] at h; cases h
  | n + 1, 0, t, h => by rw [stL] at h; exact stL_mem n 10 t h
  | 0, k + 1, t, h => by
    rw [stL] at h
    rcases List.mem_append.1 h with h | h
    · exact stL_mem 0 k t h
    · rw [List.mem_singleton.1 h]; exact ⟨rfl, rfl, rfl⟩
  | n + 1, k + 1, t, h => by
    rw [stL] at h
    rcases List.mem_append.1 h with h | h
    · exact stL_mem (n + 1) k t h
    · rw [List.mem_singleton.1 h]; exact ⟨rfl, rfl, rfl⟩
theorem fst_const {α : Type} {f : α → Int} {c : Int} : ∀ {l : List α}, l ≠ [] → (∀ x ∈ l, f x = c) → fstE f l = c
  | [], h, _ => absurd rfl h
  | [x], _, h => by
    unfold fstE
    rw [h x (by simp)]
    by_cases e : c = 0
    · rw [if_neg (fun k => k e), e]; rfl
    · rw [if_pos e]
  | x :: y :: l, _, h => by
    unfold fstE
    rw [h x (by simp)]
    split
    · rfl
    · exact fst_const (by simp) (fun z hz => h z (List.mem_cons_of_mem _ hz))
theorem stepE_c {t : GSp} {o i : Int} (h : t.order = 1 ∧ t.outer = o ∧ t.inner = i) : stepE t = if (dryB o || dryB i) = true then 7 else 0 := by
 unfold stepE
 rw [h.1, h.2.1, h.2.2, if_neg (by decide)]
/-- What is wrong with a run does not hang on power. -/
theorem runE_is (g : Gat) (s : GSt) (f : Nat → Bool) (o i : Int) : runE g s (stL f o i 30 0) = if chkG g ≠ 0 then chkG g else if lostE g s ≠ 0 then lostE g s else if (dryB o || dryB i) = true then 7 else 0 := by
 have hl := stL_len f o i 30 0
 unfold runE
 rw [hl]
 rw [if_neg (show ¬ (2000 : Int) < ((30 * 10 + 0 : Nat) : Int) by decide)]
 rw [fst_const (c := if (dryB o || dryB i) = true then 7 else 0) (fun e => by rw [e] at hl; cases hl) (fun t ht => stepE_c (stL_mem 30 0 t ht))]
theorem run_at {g : Gat} {s : GSt} {f : Nat → Bool} {o i : Int} (h : runE g s (stL f o i 30 0) = 0) : chkG g = 0 ∧ lostE g s = 0 ∧ atE g o i = 0 := by
 rw [runE_is] at h
 split at h
 next k => exact absurd h k
 next k =>
 split at h
 next k2 => exact absurd h k2
 next k2 =>
 refine ⟨Decidable.not_not.1 k, Decidable.not_not.1 k2, ?_⟩
 unfold atE
 rw [if_neg k]; exact h
/-- A gate that falls, falls. -/
theorem fall_at {g : Gat} {o i : Int} (hok : GatOk g) (hf : ∀ q, 0 ≤ q → q < g.travel → rubF g q o i < netF g q o i) : ∀ (l : List GSp) (s : GSt), GsOk g s → s.bolted = false → (∀ t ∈ l, t.outer = o ∧ t.inner = i) →
    ∀ (j : Nat) r, (runG g s l)[j]? = some r → r.pos = min g.travel (s.pos + ((j : Int) + 1) * g.gravity)
  | [], s, _, _, _, j, r, h => by simp [runG] at h
  | t :: l, s, hs, hb, ht, j, r, h => by
    have hp := hs.pos
    have hg := hok.gravity
    obtain ⟨ho, hi⟩ := ht t (by simp)
    have hd := do_ok hok hs t
    have e1 : (doF g s t).pos = min g.travel (s.pos + g.gravity) := by
      unfold doF
      show s.pos + (cmF g s t).1 = _
      by_cases hq : s.pos < g.travel
      · unfold cmF
        rw [hb, if_neg (by decide), ho, hi, push_1 (hf s.pos hp.1 hq)]
        dsimp only
        omega
      · have h0 := hd.2.2.1
        omega
    rw [runG] at h
    cases j with
    | zero =>
      simp only [List.getElem?_cons_zero, Option.some.injEq] at h
      subst h
      rw [e1]; simp
    | succ j =>
      simp only [List.getElem?_cons_succ] at h
      have := fall_at hok hf l (doF g s t) hd.1 hb (fun t h => ht t (List.mem_cons_of_mem _ h)) j r h
      rw [this, e1]
      have e2 : (((j + 1 : Nat) : Int) + 1) * g.gravity = ((j : Int) + 1) * g.gravity + g.gravity := by
        rw [show (((j + 1 : Nat) : Int) + 1) = ((j : Int) + 1) + 1 by omega, Int.add_mul, Int.one_mul]
      rw [e2]
      have h3 := Int.mul_nonneg (show 0 ≤ (j : Int) + 1 by omega) (show 0 ≤ g.gravity by omega)
      omega
def manyF (g : Gat) (s : GSt) : Int := (g.travel - s.pos + g.gravity - 1) / max g.gravity 1
theorem many_bd {g : Gat} {s : GSt} (hok : GatOk g) (hs : GsOk g s) : 0 ≤ manyF g s ∧ manyF g s ≤ 10000 ∧ g.travel - s.pos ≤ manyF g s * g.gravity := by
 have hp := hs.pos
 have hg := hok.gravity
 have ht := hok.trav
 unfold manyF
 rw [show max g.gravity 1 = g.gravity by omega]
 have h0 := Int.ediv_nonneg (show 0 ≤ g.travel - s.pos + g.gravity - 1 by omega) (show 0 ≤ g.gravity by omega)
 have h1 := Int.lt_ediv_add_one_mul_self (g.travel - s.pos + g.gravity - 1) (show 0 < g.gravity by omega)
 have h2 := Int.ediv_le_self g.gravity (show 0 ≤ g.travel - s.pos + g.gravity - 1 by omega)
 rw [Int.add_mul, Int.one_mul] at h1
 exact ⟨h0, by omega, by omega⟩
theorem many_at {g : Gat} {s : GSt} {o i : Int} {l : List GSp} (hok : GatOk g) (hs : GsOk g s) (hf : ∀ q, 0 ≤ q → q < g.travel → rubF g q o i < netF g q o i) (hb : s.bolted = false) (ht : ∀ t ∈ l, t.outer = o ∧ t.inner = i) {r : GSt} (hm : 1 ≤ manyF g s) (h : (runG g s l)[(manyF g s - 1).toNat]? = some r) : r.pos = g.travel := by
 have h1 := fall_at hok hf l s hs hb ht _ _ h
 have h2 := many_bd hok hs
 rw [show (((manyF g s - 1).toNat : Nat) : Int) + 1 = manyF g s by omega] at h1
 omega
theorem sl_gsp {w : World} {E : TypeId} {v : Value} {l : List GSp} (h : w.ownsRow 0 E 4 v l.length (l.flatMap gspC)) : Sl w 4 RGsp v l := by
 obtain ⟨a, cap, hv, h1, h2, hel⟩ := row_sl (ok := fun _ => True) gspC_len h (fun _ _ => trivial)
 refine ⟨a, cap, hv, h1, h2, fun i hi => ?_⟩
 obtain ⟨b, o, cs, e1, e2, e3, e4, -⟩ := hel i hi
 exact ⟨b, o, cs, e1, e2, e3, e4⟩
theorem st_snoc (f : Nat → Bool) (o i : Int) (n k : Nat) : (stL f o i n (k + 1)).length = (stL f o i n k).length + 1 ∧ (stL f o i n (k + 1)).flatMap gspC = (stL f o i n k).flatMap gspC ++ [.int .i64 1, .bool (f n), .int .i64 o, .int .i64 i] := by
 rw [stL_k, List.length_append, List.flatMap_append]
 exact ⟨rfl, rfl⟩
end Bx
namespace Go.Proofs.YtbbpiebhnbhbiaaGreat
open Go Bx
/-- barrage/barragetop.TopPower -/
theorem w_TopPower {x : Pwr} {cs : List Value} {w0 : World} (hx : RPwr w0 cs x) : CV Tryz.prog 3 #[.agg cs.toArray] w0 (.bool true) := by
 obtain ⟨nv, sv, uv, qo, qs, rfl, hP⟩ := hx
 obtain ⟨asp, csp, rfl, -⟩ := id hP.spans
 have hspl := hP.spl
 refine enter Tryz.func3 rfl Tryz.ntmps3 rfl ?_
 have hS := St.start w0
 refine seq ?_
 refine region ?_
 refine sbox hS rfl rfl ?_; clear hS; intro b1 w hS
 refine sv (yAsg rfl) ?_
 refine nil ?_
 show Code.wp _ _ _ _ _
 refine seq ?_
 refine region ?_
 refine sv (yAsg rfl) ?_
 refine nil ?_
 show Code.wp _ _ _ _ _
 refine seq ?_
 refine seq ?_
 refine region ?_
 refine sv (yAsg rfl) ?_
 refine nil ?_
 show Code.wp _ _ _ _ _
 refine block ?_
 refine loop (fun f w zz => ∃ (k : Nat) (bv : Value), f 1 = .pointer (some ⟨b1, 0, none⟩) ∧ f 3 = bv ∧ f 4 = .int .i64 (k : Int) ∧ StX [] w0 w (rowI (bv) 3 1 (basL (x.spans.take k)).length ((basL (x.spans.take k)).flatMap Bx.encI) :: blk b1 (pwrL x nv (.slice asp x.spans.length csp) uv qo qs) 33 :: ([] : List Bx.Item)) ∧ (k ≤ x.spans.length) ∧ zz = x.spans.length - k) _ ⟨_, rfl, 0, _, rfl, rfl, rfl, (hS.nilrow 3 1), (Nat.zero_le _), rfl⟩ ?_
 clear hS
 rintro f w _ ⟨k, bv, h1, h3, h4, hS, hk, rfl⟩
 refine seq ?_
 refine seq ?_
 refine region ?_
 refine sv (yMove h4) ?_
 refine sv (fa33_1 h1) ?_
 refine sv (yLdB rfl Tryz.isAgg25 (hS.at _) rfl) ?_
 refine sv (yLen rfl Tryz.underlying25) ?_
 refine sv (yLss rfl rfl) ?_
 refine nil ?_
 show Code.wp _ _ _ _ _
 refine cond rfl (fun c26 => ?_) (fun c26 => ?_)
 ·
  simp only [BS, ne_eq] at c26
  obtain ⟨s, hx, hd⟩ := drop_of (l := x.spans) (k := k) (by omega)
  obtain ⟨bs, os, cs, has, -, hcs, hRs, -⟩ := sl_at hP.spans hx
  obtain ⟨rfl, hs64, -⟩ := hRs
  obtain ⟨ab, cb, rfl⟩ := row_shape (hS.row bv)
  have hbl := basL_len (x.spans.take k)
  rw [List.length_take] at hbl
  refine skip ?_
  show Code.wp _ _ _ _ _
  refine seqJ (n := 299) (fun f w => ∃ (bv : Value), f 1 = .pointer (some ⟨b1, 0, none⟩) ∧ f 3 = bv ∧ f 4 = .int .i64 (k : Int) ∧ StX [] w0 w (rowI (bv) 3 1 (basL (x.spans.take (k + 1))).length ((basL (x.spans.take (k + 1))).flatMap Bx.encI) :: blk b1 (pwrL x nv (.slice asp x.spans.length csp) uv qo qs) 33 :: ([] : List Bx.Item)) ∧ True) ?_ ?_
  ·
   refine block ?_
   refine seq ?_
   refine region ?_
   refine sv (yAsg rfl) ?_
   refine nil ?_
   show Code.wp _ _ _ _ _
   refine seq ?_
   refine seq ?_
   refine region ?_
   refine sv (yAsg rfl) ?_
   refine nil ?_
   show Code.wp _ _ _ _ _
   refine block ?_
   refine loop (fun f w zz => ∃ (j : Nat), f 1 = .pointer (some ⟨b1, 0, none⟩) ∧ f 3 = .slice ab (basL (x.spans.take k)).length cb ∧ f 4 = .int .i64 (k : Int) ∧ f 5 = .bool (((basL (x.spans.take k)).take j).any (fun m => decide (m = s.node))) ∧ f 6 = .int .i64 (j : Int) ∧ StX [] w0 w (rowI (.slice ab (basL (x.spans.take k)).length cb) 3 1 (basL (x.spans.take k)).length ((basL (x.spans.take k)).flatMap Bx.encI) :: blk b1 (pwrL x nv (.slice asp x.spans.length csp) uv qo qs) 33 :: ([] : List Bx.Item)) ∧ (j ≤ (basL (x.spans.take k)).length) ∧ zz = (basL (x.spans.take k)).length - j) _ ⟨_, rfl, 0, h1, h3, h4, rfl, rfl, hS, (Nat.zero_le _), rfl⟩ ?_
   clear hS
   rintro f w _ ⟨j, h1, h3, h4, h5, h6, hS, hj, rfl⟩
   refine seq ?_
   refine seq ?_
   refine region ?_
   refine sv (yMove h6) ?_
   refine sv (yMove h3) ?_
   refine sv (yLen rfl Tryz.underlying26) ?_
   refine sv (yLss rfl rfl) ?_
   refine nil ?_
   show Code.wp _ _ _ _ _
   refine cond rfl (fun c32 => ?_) (fun c32 => ?_)
   ·
    simp only [BS, ne_eq] at c32
    obtain ⟨y, hy, hd2⟩ := drop_of (l := basL (x.spans.take k)) (k := j) (by omega)
    obtain ⟨gb, rfl, -⟩ := row_get (hS.row (.slice ab (basL (x.spans.take k)).length cb)) (by omega)
    have hst := any_step (n := s.node) hy
    refine skip ?_
    show Code.wp _ _ _ _ _
    refine seqJ (n := 299) (fun f w => f 1 = .pointer (some ⟨b1, 0, none⟩) ∧ f 3 = .slice (some ⟨gb, 0, none⟩) (basL (x.spans.take k)).length cb ∧ f 4 = .int .i64 (k : Int) ∧ f 5 = .bool (((basL (x.spans.take k)).take (j + 1)).any (fun m => decide (m = s.node))) ∧ f 6 = .int .i64 (j : Int) ∧ StX [] w0 w (rowI (.slice (some ⟨gb, 0, none⟩) (basL (x.spans.take k)).length cb) 3 1 (basL (x.spans.take k)).length ((basL (x.spans.take k)).flatMap Bx.encI) :: blk b1 (pwrL x nv (.slice asp x.spans.length csp) uv qo qs) 33 :: ([] : List Bx.Item)) ∧ True) ?_ ?_
    ·
     refine block ?_
     by_cases hb9 : (((basL (x.spans.take k)).take j).any (fun m => decide (m = s.node))) = true
     ·
      refine region_mix (fun w => StX [] w0 w (rowI (.slice (some ⟨gb, 0, none⟩) (basL (x.spans.take k)).length cb) 3 1 (basL (x.spans.take k)).length ((basL (x.spans.take k)).flatMap Bx.encI) :: blk b1 (pwrL x nv (.slice asp x.spans.length csp) uv qo qs) 33 :: ([] : List Bx.Item))) 15 mixed hS ?_
      clear hS; intro w hS
      refine f_step 0 (by kernel_rfl) rfl (fun c a a' w h => by obtain ⟨_, v, hv, _⟩ := h; cases hv) (by refine hS.sub ?_; repeat first | exact List.Sublist.refl _ | exact List.nil_sublist _ | apply List.Sublist.cons_cons | apply List.Sublist.cons) (fun w hS => (yMove h5)) ?_
      refine f_step 1 (by kernel_rfl) rfl (fun c a a' w h => by obtain ⟨_, v, hv, _⟩ := h; cases hv) (by refine hS.sub ?_; repeat first | exact List.Sublist.refl _ | exact List.nil_sublist _ | apply List.Sublist.cons_cons | apply List.Sublist.cons) (fun w hS => (yMove rfl)) ?_
      refine f_skip 2 (by kernel_rfl) rfl rfl rfl (fun c a a' w h => by obtain ⟨_, v, hv, _⟩ := h; cases hv) (by refine hS.sub ?_; repeat first | exact List.Sublist.refl _ | exact List.nil_sublist _ | apply List.Sublist.cons_cons | apply List.Sublist.cons) (u := (.bool (((basL (x.spans.take k)).take j).any (fun m => decide (m = s.node))))) rfl (by rw [hb9]; simp) ?_
      refine f_skip 3 (by kernel_rfl) rfl rfl rfl (fun c a a' w h => by obtain ⟨_, v, hv, _⟩ := h; cases hv) (by refine hS.sub ?_; repeat first | exact List.Sublist.refl _ | exact List.nil_sublist _ | apply List.Sublist.cons_cons | apply List.Sublist.cons) (u := (.bool (((basL (x.spans.take k)).take j).any (fun m => decide (m = s.node))))) rfl (by rw [hb9]; simp) ?_
      refine f_skip 4 (by kernel_rfl) rfl rfl rfl (fun c a a' w h => by obtain ⟨_, v, hv, _⟩ := h; cases hv) (by refine hS.sub ?_; repeat first | exact List.Sublist.refl _ | exact List.nil_sublist _ | apply List.Sublist.cons_cons | apply List.Sublist.cons) (u := (.bool (((basL (x.spans.take k)).take j).any (fun m => decide (m = s.node))))) rfl (by rw [hb9]; simp) ?_
      refine f_skip 5 (by kernel_rfl) rfl rfl rfl (fun c a a' w h => by obtain ⟨_, v, hv, _⟩ := h; cases hv) (by refine hS.sub ?_; repeat first | exact List.Sublist.refl _ | exact List.nil_sublist _ | apply List.Sublist.cons_cons | apply List.Sublist.cons) (u := (.bool (((basL (x.spans.take k)).take j).any (fun m => decide (m = s.node))))) rfl (by rw [hb9]; simp) ?_
      refine f_skip 6 (by kernel_rfl) rfl rfl rfl (fun c a a' w h => by obtain ⟨_, v, hv, _⟩ := h; cases hv) (by refine hS.sub ?_; repeat first | exact List.Sublist.refl _ | exact List.nil_sublist _ | apply List.Sublist.cons_cons | apply List.Sublist.cons) (u := (.bool (((basL (x.spans.take k)).take j).any (fun m => decide (m = s.node))))) rfl (by rw [hb9]; simp) ?_
      refine f_skip 7 (by kernel_rfl) rfl rfl rfl (fun c a a' w h => by obtain ⟨_, v, hv, _⟩ := h; cases hv) (by refine hS.sub ?_; repeat first | exact List.Sublist.refl _ | exact List.nil_sublist _ | apply List.Sublist.cons_cons | apply List.Sublist.cons) (u := (.bool (((basL (x.spans.take k)).take j).any (fun m => decide (m = s.node))))) rfl (by rw [hb9]; simp) ?_
      refine f_skip 8 (by kernel_rfl) rfl rfl rfl (fun c a a' w h => by obtain ⟨_, v, hv, _⟩ := h; cases hv) (by refine hS.sub ?_; repeat first | exact List.Sublist.refl _ | exact List.nil_sublist _ | apply List.Sublist.cons_cons | apply List.Sublist.cons) (u := (.bool (((basL (x.spans.take k)).take j).any (fun m => decide (m = s.node))))) rfl (by rw [hb9]; simp) ?_
      refine f_skip 9 (by kernel_rfl) rfl rfl rfl (fun c a a' w h => by obtain ⟨_, v, hv, _⟩ := h; cases hv) (by refine hS.sub ?_; repeat first | exact List.Sublist.refl _ | exact List.nil_sublist _ | apply List.Sublist.cons_cons | apply List.Sublist.cons) (u := (.bool (((basL (x.spans.take k)).take j).any (fun m => decide (m = s.node))))) rfl (by rw [hb9]; simp) ?_
      refine f_skip 10 (by kernel_rfl) rfl rfl rfl (fun c a a' w h => by obtain ⟨_, v, hv, _⟩ := h; cases hv) (by refine hS.sub ?_; repeat first | exact List.Sublist.refl _ | exact List.nil_sublist _ | apply List.Sublist.cons_cons | apply List.Sublist.cons) (u := (.bool (((basL (x.spans.take k)).take j).any (fun m => decide (m = s.node))))) rfl (by rw [hb9]; simp) ?_
      refine f_skip 11 (by kernel_rfl) rfl rfl rfl (fun c a a' w h => by obtain ⟨_, v, hv, _⟩ := h; cases hv) (by refine hS.sub ?_; repeat first | exact List.Sublist.refl _ | exact List.nil_sublist _ | apply List.Sublist.cons_cons | apply List.Sublist.cons) (u := (.bool (((basL (x.spans.take k)).take j).any (fun m => decide (m = s.node))))) rfl (by rw [hb9]; simp) ?_
      refine f_skip 12 (by kernel_rfl) rfl rfl rfl (fun c a a' w h => by obtain ⟨_, v, hv, _⟩ := h; cases hv) (by refine hS.sub ?_; repeat first | exact List.Sublist.refl _ | exact List.nil_sublist _ | apply List.Sublist.cons_cons | apply List.Sublist.cons) (u := (.bool (((basL (x.spans.take k)).take j).any (fun m => decide (m = s.node))))) rfl (by rw [hb9]; simp) ?_
      refine f_step 13 (by kernel_rfl) rfl (fun c a a' w h => by obtain ⟨_, v, hv, _⟩ := h; cases hv) (by refine hS.sub ?_; repeat first | exact List.Sublist.refl _ | exact List.nil_sublist _ | apply List.Sublist.cons_cons | apply List.Sublist.cons) (fun w hS => (yPick (B := true) (rfl.trans (congrArg Value.bool hb9)) (fun _ => rfl) (fun h => nomatch h))) ?_
      refine f_step 14 (by kernel_rfl) rfl (fun c a a' w h => by obtain ⟨_, v, hv, _⟩ := h; cases hv) (by refine hS.sub ?_; repeat first | exact List.Sublist.refl _ | exact List.nil_sublist _ | apply List.Sublist.cons_cons | apply List.Sublist.cons) (fun w hS => (yAsg rfl)) ?_
      refine a_end (by kernel_rfl) ?_
      exact ⟨_, rfl, h1, h3, h4, (rfl.trans (congrArg Value.bool (by rw [hst, hb9]; rfl))), h6, hS, trivial⟩
     ·
      refine region_mix (fun w => StX [] w0 w (rowI (.slice (some ⟨gb, 0, none⟩) (basL (x.spans.take k)).length cb) 3 1 (basL (x.spans.take k)).length ((basL (x.spans.take k)).flatMap Bx.encI) :: blk b1 (pwrL x nv (.slice asp x.spans.length csp) uv qo qs) 33 :: ([] : List Bx.Item))) 15 mixed hS ?_
      clear hS; intro w hS
      refine f_step 0 (by kernel_rfl) rfl (fun c a a' w h => by obtain ⟨_, v, hv, _⟩ := h; cases hv) (by refine hS.sub ?_; repeat first | exact List.Sublist.refl _ | exact List.nil_sublist _ | apply List.Sublist.cons_cons | apply List.Sublist.cons) (fun w hS => (yMove h5)) ?_
      refine f_step 1 (by kernel_rfl) rfl (fun c a a' w h => by obtain ⟨_, v, hv, _⟩ := h; cases hv) (by refine hS.sub ?_; repeat first | exact List.Sublist.refl _ | exact List.nil_sublist _ | apply List.Sublist.cons_cons | apply List.Sublist.cons) (fun w hS => (yMove rfl)) ?_
      refine f_go 2 (by kernel_rfl) rfl rfl rfl (fun c a a' w h => by obtain ⟨_, v, hv, _⟩ := h; cases hv) (by refine hS.sub ?_; repeat first | exact List.Sublist.refl _ | exact List.nil_sublist _ | apply List.Sublist.cons_cons | apply List.Sublist.cons) (congrArg Value.bool (Bool.eq_false_iff.2 hb9)) (fun w hS => (yMove h3)) ?_
      refine f_go 3 (by kernel_rfl) rfl rfl rfl (fun c a a' w h => by obtain ⟨_, v, hv, _⟩ := h; cases hv) (by refine hS.sub ?_; repeat first | exact List.Sublist.refl _ | exact List.nil_sublist _ | apply List.Sublist.cons_cons | apply List.Sublist.cons) (congrArg Value.bool (Bool.eq_false_iff.2 hb9)) (fun w hS => (yMove h6)) ?_
      refine f_go 4 (by kernel_rfl) rfl rfl rfl (fun c a a' w h => by obtain ⟨_, v, hv, _⟩ := h; cases hv) (by refine hS.sub ?_; repeat first | exact List.Sublist.refl _ | exact List.nil_sublist _ | apply List.Sublist.cons_cons | apply List.Sublist.cons) (congrArg Value.bool (Bool.eq_false_iff.2 hb9)) (fun w hS => (yIx0 (m := j) rfl rfl Tryz.runUnderlying26 Tryz.sizeOf3 (by omega))) ?_
      refine f_go 5 (by kernel_rfl) rfl rfl rfl (fun c a a' w h => by obtain ⟨_, v, hv, _⟩ := h; cases hv) (by refine hS.sub ?_; repeat first | exact List.Sublist.refl _ | exact List.nil_sublist _ | apply List.Sublist.cons_cons | apply List.Sublist.cons) (congrArg Value.bool (Bool.eq_false_iff.2 hb9)) (fun w hS => (yLd rfl Tryz.isAgg3 ((flat_cells0 (enc := Bx.encI) encI_len (row_at (hS.row (.slice (some ⟨gb, 0, none⟩) (basL (x.spans.take k)).length cb)) rfl (by omega)) hy).one))) ?_
      refine f_go 6 (by kernel_rfl) rfl rfl rfl (fun c a a' w h => by obtain ⟨_, v, hv, _⟩ := h; cases hv) (by refine hS.sub ?_; repeat first | exact List.Sublist.refl _ | exact List.nil_sublist _ | apply List.Sublist.cons_cons | apply List.Sublist.cons) (congrArg Value.bool (Bool.eq_false_iff.2 hb9)) (fun w hS => (fa33_1 h1)) ?_
      refine f_go 7 (by kernel_rfl) rfl rfl rfl (fun c a a' w h => by obtain ⟨_, v, hv, _⟩ := h; cases hv) (by refine hS.sub ?_; repeat first | exact List.Sublist.refl _ | exact List.nil_sublist _ | apply List.Sublist.cons_cons | apply List.Sublist.cons) (congrArg Value.bool (Bool.eq_false_iff.2 hb9)) (fun w hS => (yLdB rfl Tryz.isAgg25 (hS.at _) rfl)) ?_
      refine f_go 8 (by kernel_rfl) rfl rfl rfl (fun c a a' w h => by obtain ⟨_, v, hv, _⟩ := h; cases hv) (by refine hS.sub ?_; repeat first | exact List.Sublist.refl _ | exact List.nil_sublist _ | apply List.Sublist.cons_cons | apply List.Sublist.cons) (congrArg Value.bool (Bool.eq_false_iff.2 hb9)) (fun w hS => (yMove h4)) ?_
      refine f_go 9 (by kernel_rfl) rfl rfl rfl (fun c a a' w h => by obtain ⟨_, v, hv, _⟩ := h; cases hv) (by refine hS.sub ?_; repeat first | exact List.Sublist.refl _ | exact List.nil_sublist _ | apply List.Sublist.cons_cons | apply List.Sublist.cons) (congrArg Value.bool (Bool.eq_false_iff.2 hb9)) (fun w hS => (yIxa rfl has rfl Tryz.runUnderlying25 Tryz.sizeOf35 (by omega) (by omega))) ?_
      refine f_go 10 (by kernel_rfl) rfl rfl rfl (fun c a a' w h => by obtain ⟨_, v, hv, _⟩ := h; cases hv) (by refine hS.sub ?_; repeat first | exact List.Sublist.refl _ | exact List.nil_sublist _ | apply List.Sublist.cons_cons | apply List.Sublist.cons) (congrArg Value.bool (Bool.eq_false_iff.2 hb9)) (fun w hS => (fa35_0 rfl)) ?_
      refine f_go 11 (by kernel_rfl) rfl rfl rfl (fun c a a' w h => by obtain ⟨_, v, hv, _⟩ := h; cases hv) (by refine hS.sub ?_; repeat first | exact List.Sublist.refl _ | exact List.nil_sublist _ | apply List.Sublist.cons_cons | apply List.Sublist.cons) (congrArg Value.bool (Bool.eq_false_iff.2 hb9)) (fun w hS => (yLd rfl Tryz.isAgg3 ((hcs.ext hS.ext).at (j := 0) rfl))) ?_
      refine f_go 12 (by kernel_rfl) rfl rfl rfl (fun c a a' w h => by obtain ⟨_, v, hv, _⟩ := h; cases hv) (by refine hS.sub ?_; repeat first | exact List.Sublist.refl _ | exact List.nil_sublist _ | apply List.Sublist.cons_cons | apply List.Sublist.cons) (congrArg Value.bool (Bool.eq_false_iff.2 hb9)) (fun w hS => (yEql rfl rfl)) ?_
      refine f_step 13 (by kernel_rfl) rfl (fun c a a' w h => by obtain ⟨_, v, hv, _⟩ := h; cases hv) (by refine hS.sub ?_; repeat first | exact List.Sublist.refl _ | exact List.nil_sublist _ | apply List.Sublist.cons_cons | apply List.Sublist.cons) (fun w hS => (yPick (B := false) (rfl.trans (congrArg Value.bool (Bool.eq_false_iff.2 hb9))) (fun h => nomatch h) (fun _ => rfl))) ?_
      refine f_step 14 (by kernel_rfl) rfl (fun c a a' w h => by obtain ⟨_, v, hv, _⟩ := h; cases hv) (by refine hS.sub ?_; repeat first | exact List.Sublist.refl _ | exact List.nil_sublist _ | apply List.Sublist.cons_cons | apply List.Sublist.cons) (fun w hS => (yAsg rfl)) ?_
      refine a_end (by kernel_rfl) ?_
      exact ⟨_, rfl, h1, h3, h4, (rfl.trans (congrArg Value.bool (by rw [hst, show (((basL (x.spans.take k)).take j).any (fun m => decide (m = s.node))) = false from Bool.eq_false_iff.2 hb9]; rfl))), h6, hS, trivial⟩
    ·
     clear hS; rintro f w ⟨h1, h3, h4, h5, h6, hS, -⟩
     refine region ?_
     refine sv (yMove h6) ?_
     refine sv (yAdd rfl rfl ⟨by omega, by omega⟩) ?_
     refine sv (yAsg rfl) ?_
     refine nil ?_
     exact ⟨_, _, rfl, ⟨j + 1, h1, h3, h4, h5, rfl, hS, (by omega), rfl⟩, by omega⟩
   ·
    simp only [BS, ne_eq] at c32
    obtain rfl : j = (basL (x.spans.take k)).length := by omega
    rw [List.take_length] at h5
    refine exit ?_
    show Code.wp _ _ _ _ _
    refine seq ?_
    refine region ?_
    refine sv (yMove h5) ?_
    refine sv (yNot rfl) ?_
    refine nil ?_
    show Code.wp _ _ _ _ _
    refine cond rfl (fun c50 => ?_) (fun c50 => ?_)
    ·
     have hbk : basL (x.spans.take (k + 1)) = basL (x.spans.take k) ++ [s.node] := by rw [basL_step hx, addB, if_neg (by rw [show ((basL (x.spans.take k)).any fun m => decide (m = s.node)) = false by simpa using c50]; decide)]
     refine region ?_
     refine sv (yMove h3) ?_
     refine sv (fa33_1 h1) ?_
     refine sv (yLdB rfl Tryz.isAgg25 (hS.at _) rfl) ?_
     refine sv (yMove h4) ?_
     refine sv (yIxa rfl has rfl Tryz.runUnderlying25 Tryz.sizeOf35 (by omega) (by omega)) ?_
     refine sv (fa35_0 rfl) ?_
     refine sv (yLd rfl Tryz.isAgg3 ((hcs.ext hS.ext).at (j := 0) rfl)) ?_
     refine sbslice hS Tryz.underlying26 Tryz.sizeOf3 rfl Tryz.zeroValue3 rfl (.cons rfl rfl .nil) rfl ?_; clear hS; intro b58 w hS
     refine sapp (bytes := 8) (size := 1) (v := .slice ab (basL (x.spans.take k)).length cb) (m := 1) hS rfl rfl Tryz.underlying26 ti3 rfl rfl rfl rfl (by decide) (blk_cells (hS.at _)) rfl rfl (by omega) (by omega) ?_; clear hS; intro v59 w hS
     refine sv (yAsg rfl) ?_
     refine nil ?_
     exact ⟨_, rfl, _, h1, rfl, h4, (by rw [hbk, List.flatMap_append, List.length_append]; exact hS.sub (.cons _ (List.Sublist.refl _))), trivial⟩
    ·
     have hbk : basL (x.spans.take (k + 1)) = basL (x.spans.take k) := by rw [basL_step hx, addB, if_pos (by simpa using c50)]
     refine skip ?_
     exact ⟨_, rfl, _, h1, h3, h4, (by rw [hbk]; exact hS), trivial⟩
  ·
   clear hS; rintro f w ⟨bv, h1, h3, h4, hS, -⟩
   refine region ?_
   refine sv (yMove h4) ?_
   refine sv (yAdd rfl rfl ⟨by omega, by omega⟩) ?_
   refine sv (yAsg rfl) ?_
   refine nil ?_
   exact ⟨_, _, rfl, ⟨k + 1, bv, h1, h3, rfl, hS, (by omega), rfl⟩, by omega⟩
 ·
  simp only [BS, ne_eq] at c26
  obtain rfl : k = x.spans.length := by omega
  rw [List.take_length] at hS
  refine exit ?_
  show Code.wp _ _ _ _ _
  refine seq ?_
  refine region ?_
  have hn64 : ∀ s ∈ x.spans, I64 s.node := fun s hs => by
   obtain ⟨i, hi⟩ := List.mem_iff_getElem?.1 hs
   obtain ⟨_, _, _, -, -, -, hR, -⟩ := sl_at hP.spans hi
   exact hR.2.1
  refine sv (fa33_0 h1) ?_
  refine sv (yLdBA rfl Tryz.isAgg24 Tryz.sizeOf24 (hS.at _) rfl rfl) ?_
  refine sv (fa33_2 h1) ?_
  refine sv (yLdB rfl Tryz.isAgg3 (hS.at _) rfl) ?_
  refine sv (yMove h3) ?_
  refine sv (fa33_3 h1) ?_
  refine sv (yLdB rfl Tryz.isAgg26 (hS.at _) rfl) ?_
  refine scall Tryz.call4 (.cons rfl (.cons rfl (.cons rfl (.cons rfl .nil)))) (c_Proves (node := x.power) (hP.tree.ext RNod.stays hS.ext) (sl_ints (hS.row bv) rfl (basL_64 hn64)) (hP.guard.ext RInt.stays hS.ext)) ?_
  rintro _ w ⟨rfl, hE⟩; replace hS := hS.step hE; clear hE
  refine sv (yMove rfl) ?_
  refine sv (yExt rfl rfl) ?_
  refine sv (yExt rfl rfl) ?_
  refine sv (yAsg rfl) ?_
  refine sv (yAsg rfl) ?_
  refine nil ?_
  show Code.wp _ _ _ _ _
  refine seq ?_
  refine cutC (.cons (us rfl (us rfl (us rfl (us rfl (us rfl (us rfl (us rfl (us rfl (us rfl (us rfl (us rfl (us rfl (us rfl (us rfl (us rfl (us rfl (us rfl (us rfl h1)))))))))))))))))) (.cons (us rfl uh) (.cons uh .nil))) ?_
  rintro f ⟨h1, h7, h8, -⟩
  refine region ?_
  refine sv (fa33_0 h1) ?_
  refine sv (yLdBA rfl Tryz.isAgg24 Tryz.sizeOf24 (hS.at _) rfl rfl) ?_
  refine sv (fa33_1 h1) ?_
  refine sv (yLdB rfl Tryz.isAgg25 (hS.at _) rfl) ?_
  refine scall Tryz.call5 (.cons rfl (.cons rfl (.cons rfl .nil))) (c_RunF (n := 30) (hP.tree.ext RNod.stays hS.ext) (hP.spans.ext RFsp.stays hS.ext)) ?_
  rintro _ w (⟨hr, rfl, hE⟩ | ⟨hr, v76, vs, its, rfl, hV, hM⟩)
  ·
   replace hS := hS.step hE; clear hE
   refine sv (yMove rfl) ?_
   refine sv (yExt rfl rfl) ?_
   refine sv (yExt rfl rfl) ?_
   refine sv (yAsg rfl) ?_
   refine sv (yAsg rfl) ?_
   refine nil ?_
   show Code.wp _ _ _ _ _
   refine seq ?_
   refine seq ?_
   refine region ?_
   refine sv (yMove h8) ?_
   refine sv (yNeq rfl rfl) ?_
   refine sv (yMove rfl) ?_
   refine sg rfl rfl rfl (fun g => (yMove rfl)) (fun v82 g82 => ?_)
   refine sg rfl rfl rfl (fun g => (yNeq (g82.1 g) rfl)) (fun v83 g83 => ?_)
   refine sv (yOr rfl rfl (fun hB => (g83.1 hB))) ?_
   refine sv (yMove rfl) ?_
   refine sg rfl rfl rfl (fun g => (fa33_2 h1)) (fun v86 g86 => ?_)
   refine sg rfl rfl rfl (fun g => (yLdB (g86.1 g) Tryz.isAgg3 (hS.at _) rfl)) (fun v87 g87 => ?_)
   refine sg rfl rfl rfl (fun g => (yLss (g87.1 g) rfl)) (fun v88 g88 => ?_)
   refine sv (yOr rfl rfl (fun hB => (g88.1 hB))) ?_
   refine sv (yMove rfl) ?_
   refine sg rfl rfl rfl (fun g => (fa33_2 h1)) (fun v91 g91 => ?_)
   refine sg rfl rfl rfl (fun g => (yLdB (g91.1 g) Tryz.isAgg3 (hS.at _) rfl)) (fun v92 g92 => ?_)
   refine sg rfl rfl rfl (fun g => (yMove rfl)) (fun v93 g93 => ?_)
   refine sg rfl rfl rfl (fun g => (yLen (g93.1 g) Tryz.underlying39)) (fun v94 g94 => ?_)
   refine sg rfl rfl rfl (fun g => (yGeq (g92.1 g) (g94.1 g))) (fun v95 g95 => ?_)
   refine sv (yOr rfl rfl (fun hB => (g95.1 hB))) ?_
   refine nil ?_
   show Code.wp _ _ _ _ _
   refine cond rfl (fun c96 => ?_) (fun c96 => ?_)
   ·
    have hq : (decide (abE x.tree x.power [basL x.spans, x.guard] ≠ 0) || decide (raE x.tree x.spans 30 ≠ 0)) = true := by simp [hr]
    refine seq ?_
    refine cutC (.cons (us rfl (us rfl (us rfl (us rfl (us rfl (us rfl (us rfl (us rfl (us rfl (us rfl (us rfl (us rfl (us rfl (us rfl (us rfl (us rfl (us rfl (us rfl (us rfl (us rfl (us rfl (us rfl (us rfl (us rfl (us rfl (us rfl (us rfl (us rfl h1)))))))))))))))))))))))))))) (.cons (us rfl (us rfl (us rfl (us rfl (us rfl (us rfl (us rfl (us rfl (us rfl (us rfl (us rfl (us rfl (us rfl (us rfl (us rfl (us rfl (us rfl (us rfl (us rfl (us rfl (us rfl (us rfl (us rfl (us rfl (us rfl (us rfl (us rfl (us rfl h7)))))))))))))))))))))))))))) (.cons (us rfl (us rfl (us rfl (us rfl (us rfl (us rfl (us rfl (us rfl (us rfl (us rfl (us rfl (us rfl (us rfl (us rfl (us rfl (us rfl (us rfl (us rfl (us rfl (us rfl (us rfl (us rfl (us rfl (us rfl (us rfl (us rfl (us rfl (us rfl h8)))))))))))))))))))))))))))) (.cons (us rfl (us rfl (us rfl (us rfl (us rfl (us rfl (us rfl (us rfl (us rfl (us rfl (us rfl (us rfl (us rfl (us rfl (us rfl (us rfl (us rfl (us rfl (us rfl uh))))))))))))))))))) (.cons (us rfl (us rfl (us rfl (us rfl (us rfl (us rfl (us rfl (us rfl (us rfl (us rfl (us rfl (us rfl (us rfl (us rfl (us rfl (us rfl (us rfl (us rfl uh)))))))))))))))))) .nil))))) ?_
    rintro f ⟨h1, h7, h8, h9, h10, -⟩
    refine region ?_
    refine sv (yMove h8) ?_
    refine sv (yNeq rfl rfl) ?_
    refine sv (yMove rfl) ?_
    refine sg rfl rfl rfl (fun g => (yMove h10)) (fun v100 g100 => ?_)
    refine sg rfl rfl rfl (fun g => (yNeq (g100.1 g) rfl)) (fun v101 g101 => ?_)
    refine sv (yOr rfl rfl (fun hB => (g101.1 hB))) ?_
    refine sv (yMove rfl) ?_
    refine ungo rfl rfl (congrArg Value.bool hq) ?_
    refine scall Tryz.call6 .nil c_Awake ?_
    rintro _ w ⟨rfl, hE⟩; replace hS := hS.step hE; clear hE
    refine sv (yPick (B := true) (rfl.trans (congrArg Value.bool hq)) (fun _ => rfl) (fun h => nomatch h)) ?_
    refine sv (yAsg rfl) ?_
    refine nil ?_
    show Code.wp _ _ _ _ _
    refine wp_ret (thenR ?_)
    exact retV (res1 rfl rfl) hS.ext
   ·
    exfalso; simp [hr] at c96
  ·
   replace hS : StX [] w0 w (rowI (v76) 25 1 vs.length vs :: packI its :: rowI (bv) 3 1 (basL x.spans).length ((basL x.spans).flatMap Bx.encI) :: blk b1 (pwrL x nv (.slice asp x.spans.length csp) uv qo qs) 33 :: ([] : List Bx.Item)) := hS.call hM; clear hM
   obtain ⟨av, cv, rfl⟩ := row_shape (hS.row v76)
   have hVw := hV w fun it hi => hS.inpack (M := its) (by simp) hi
   have hvl : vs.length = x.tree.length := hVw.1.trans (runK_len _)
   have hln := (fa_ok (ra_ok hr).1).len
   refine sv (yMove rfl) ?_
   refine sv (yExt rfl rfl) ?_
   refine sv (yExt rfl rfl) ?_
   refine sv (yAsg rfl) ?_
   refine sv (yAsg rfl) ?_
   refine nil ?_
   show Code.wp _ _ _ _ _
   refine seq ?_
   refine seq ?_
   refine region ?_
   refine sv (yMove h8) ?_
   refine sv (yNeq rfl rfl) ?_
   refine sv (yMove rfl) ?_
   refine sg rfl rfl rfl (fun g => (yMove rfl)) (fun v82 g82 => ?_)
   refine sg rfl rfl rfl (fun g => (yNeq (g82.1 g) rfl)) (fun v83 g83 => ?_)
   refine sv (yOr rfl rfl (fun hB => (g83.1 hB))) ?_
   refine sv (yMove rfl) ?_
   refine sg rfl rfl rfl (fun g => (fa33_2 h1)) (fun v86 g86 => ?_)
   refine sg rfl rfl rfl (fun g => (yLdB (g86.1 g) Tryz.isAgg3 (hS.at _) rfl)) (fun v87 g87 => ?_)
   refine sg rfl rfl rfl (fun g => (yLss (g87.1 g) rfl)) (fun v88 g88 => ?_)
   refine sv (yOr rfl rfl (fun hB => (g88.1 hB))) ?_
   refine sv (yMove rfl) ?_
   refine sg rfl rfl rfl (fun g => (fa33_2 h1)) (fun v91 g91 => ?_)
   refine sg rfl rfl rfl (fun g => (yLdB (g91.1 g) Tryz.isAgg3 (hS.at _) rfl)) (fun v92 g92 => ?_)
   refine sg rfl rfl rfl (fun g => (yMove rfl)) (fun v93 g93 => ?_)
   refine sg rfl rfl rfl (fun g => (yLen (g93.1 g) Tryz.underlying39)) (fun v94 g94 => ?_)
   refine sg rfl rfl rfl (fun g => (yGeq (g92.1 g) (g94.1 g))) (fun v95 g95 => ?_)
   refine sv (yOr rfl rfl (fun hB => (g95.1 hB))) ?_
   refine nil ?_
   show Code.wp _ _ _ _ _
   refine cond rfl (fun c96 => ?_) (fun c96 => ?_)
   ·
    have hq : (decide (abE x.tree x.power [basL x.spans, x.guard] ≠ 0) || decide ((0 : Int) ≠ 0)) = true := by
     by_cases hz : abE x.tree x.power [basL x.spans, x.guard] = 0
     ·
      exfalso
      obtain ⟨-, hnb, -⟩ := ab_ok hz
      simp only [Bool.or_eq_true, decide_eq_true_eq] at c96
      omega
     ·
      simp [hz]
    refine seq ?_
    refine cutC (.cons (us rfl (us rfl (us rfl (us rfl (us rfl (us rfl (us rfl (us rfl (us rfl (us rfl (us rfl (us rfl (us rfl (us rfl (us rfl (us rfl (us rfl (us rfl (us rfl (us rfl (us rfl (us rfl (us rfl (us rfl (us rfl (us rfl (us rfl (us rfl h1)))))))))))))))))))))))))))) (.cons (us rfl (us rfl (us rfl (us rfl (us rfl (us rfl (us rfl (us rfl (us rfl (us rfl (us rfl (us rfl (us rfl (us rfl (us rfl (us rfl (us rfl (us rfl (us rfl (us rfl (us rfl (us rfl (us rfl (us rfl (us rfl (us rfl (us rfl (us rfl h7)))))))))))))))))))))))))))) (.cons (us rfl (us rfl (us rfl (us rfl (us rfl (us rfl (us rfl (us rfl (us rfl (us rfl (us rfl (us rfl (us rfl (us rfl (us rfl (us rfl (us rfl (us rfl (us rfl (us rfl (us rfl (us rfl (us rfl (us rfl (us rfl (us rfl (us rfl (us rfl h8)))))))))))))))))))))))))))) (.cons (us rfl (us rfl (us rfl (us rfl (us rfl (us rfl (us rfl (us rfl (us rfl (us rfl (us rfl (us rfl (us rfl (us rfl (us rfl (us rfl (us rfl (us rfl (us rfl uh))))))))))))))))))) (.cons (us rfl (us rfl (us rfl (us rfl (us rfl (us rfl (us rfl (us rfl (us rfl (us rfl (us rfl (us rfl (us rfl (us rfl (us rfl (us rfl (us rfl (us rfl uh)))))))))))))))))) .nil))))) ?_
    rintro f ⟨h1, h7, h8, h9, h10, -⟩
    refine region ?_
    refine sv (yMove h8) ?_
    refine sv (yNeq rfl rfl) ?_
    refine sv (yMove rfl) ?_
    refine sg rfl rfl rfl (fun g => (yMove h10)) (fun v100 g100 => ?_)
    refine sg rfl rfl rfl (fun g => (yNeq (g100.1 g) rfl)) (fun v101 g101 => ?_)
    refine sv (yOr rfl rfl (fun hB => (g101.1 hB))) ?_
    refine sv (yMove rfl) ?_
    refine ungo rfl rfl (congrArg Value.bool hq) ?_
    refine scall Tryz.call6 .nil c_Awake ?_
    rintro _ w ⟨rfl, hE⟩; replace hS := hS.step hE; clear hE
    refine sv (yPick (B := true) (rfl.trans (congrArg Value.bool hq)) (fun _ => rfl) (fun h => nomatch h)) ?_
    refine sv (yAsg rfl) ?_
    refine nil ?_
    show Code.wp _ _ _ _ _
    refine wp_ret (thenR ?_)
    exact retV (res1 rfl rfl) hS.ext
   ·
    have hz : abE x.tree x.power [basL x.spans, x.guard] = 0 := by
     simp only [Bool.or_eq_false_iff, decide_eq_false_iff_not] at c96
     omega
    obtain ⟨hc0, hnb, -⟩ := ab_ok hz
    obtain ⟨pn, hpn⟩ := Int.eq_ofNat_of_zero_le hnb.1
    obtain ⟨gv, rfl, -⟩ := row_get (hS.row (.slice av vs.length cv)) (by omega)
    obtain ⟨vx, hvx⟩ : ∃ v, vs[pn]? = some v := ⟨_, List.getElem?_eq_getElem (show pn < vs.length by omega)⟩
    obtain ⟨avx, cvx, rfl, -⟩ := slv_at hVw hvx
    have hsafe : provB x.tree x.power (basL x.spans) x.guard = true → ((runF x.tree (ownR x.spans 30)).getD pn []) = [] := fun h => by
     have := safe_is hz hr h
     rw [hpn] at this
     exact this
    refine skip ?_
    show Code.wp _ _ _ _ _
    refine seq ?_
    refine seq ?_
    refine cutC (.cons (us rfl (us rfl (us rfl (us rfl (us rfl (us rfl (us rfl (us rfl (us rfl (us rfl (us rfl (us rfl (us rfl (us rfl (us rfl (us rfl (us rfl (us rfl (us rfl (us rfl (us rfl (us rfl (us rfl (us rfl (us rfl (us rfl (us rfl (us rfl h1)))))))))))))))))))))))))))) (.cons (us rfl (us rfl (us rfl (us rfl (us rfl (us rfl (us rfl (us rfl (us rfl (us rfl (us rfl (us rfl (us rfl (us rfl (us rfl (us rfl (us rfl (us rfl (us rfl (us rfl (us rfl (us rfl (us rfl (us rfl (us rfl (us rfl (us rfl (us rfl h7)))))))))))))))))))))))))))) (.cons (us rfl (us rfl (us rfl (us rfl (us rfl (us rfl (us rfl (us rfl (us rfl (us rfl (us rfl (us rfl (us rfl (us rfl (us rfl (us rfl (us rfl (us rfl (us rfl (us rfl (us rfl (us rfl (us rfl (us rfl (us rfl (us rfl (us rfl (us rfl h8)))))))))))))))))))))))))))) (.cons (us rfl (us rfl (us rfl (us rfl (us rfl (us rfl (us rfl (us rfl (us rfl (us rfl (us rfl (us rfl (us rfl (us rfl (us rfl (us rfl (us rfl (us rfl (us rfl uh))))))))))))))))))) (.cons (us rfl (us rfl (us rfl (us rfl (us rfl (us rfl (us rfl (us rfl (us rfl (us rfl (us rfl (us rfl (us rfl (us rfl (us rfl (us rfl (us rfl (us rfl uh)))))))))))))))))) .nil))))) ?_
    rintro f ⟨h1, h7, h8, h9, h10, -⟩
    refine region ?_
    refine sv (yMove h7) ?_
    refine sv (yMove rfl) ?_
    refine sg rfl rfl rfl (fun g => (yMove h9)) (fun v108 g108 => ?_)
    refine sg rfl rfl rfl (fun g => (fa33_2 h1)) (fun v109 g109 => ?_)
    refine sg rfl rfl rfl (fun g => (yLdB (g109.1 g) Tryz.isAgg3 (hS.at _) rfl)) (fun v110 g110 => ?_)
    refine sg rfl rfl rfl (fun g => (yIx0 (m := pn) (g108.1 g) ((g110.1 g).trans (congrArg (Value.int .i64) hpn)) Tryz.runUnderlying39 Tryz.sizeOf25 (by omega))) (fun v111 g111 => ?_)
    refine sg rfl rfl rfl (fun g => (yLd (g111.1 g) Tryz.isAgg25 (out_cell (row_at (hS.row (.slice (some ⟨gv, 0, none⟩) vs.length cv)) rfl (by omega)) hvx))) (fun v112 g112 => ?_)
    refine sg rfl rfl rfl (fun g => (yLen (g112.1 g) Tryz.underlying25)) (fun v113 g113 => ?_)
    refine sg rfl rfl rfl (fun g => (yGtr (g113.1 g) rfl)) (fun v114 g114 => ?_)
    refine sv (yAnd rfl (fun hB => (g114.1 hB)) rfl) ?_
    refine nil ?_
    show Code.wp _ _ _ _ _
    refine cond rfl (fun c115 => ?_) (fun c115 => ?_)
    ·
     exfalso
     rw [Bool.and_eq_true] at c115
     have h7 := hsafe c115.1
     rw [h7] at c115
     simp at c115
    ·
     refine skip ?_
     show Code.wp _ _ _ _ _
     refine seq ?_
     refine region ?_
     refine sv (yAsg rfl) ?_
     refine sv (yAsg rfl) ?_
     refine nil ?_
     show Code.wp _ _ _ _ _
     refine seq ?_
     refine seq ?_
     refine region ?_
     refine sv (yAsg rfl) ?_
     refine nil ?_
     show Code.wp _ _ _ _ _
     refine block ?_
     refine loop (fun f w zz => ∃ (i : Nat) (ov aw : Value), f 1 = .pointer (some ⟨b1, 0, none⟩) ∧ f 7 = .bool (provB x.tree x.power (basL x.spans) x.guard) ∧ f 9 = .slice (some ⟨gv, 0, none⟩) vs.length cv ∧ f 11 = ov ∧ f 12 = aw ∧ f 13 = .int .i64 (i : Int) ∧ StX [] w0 w (rowI (ov) 45 4 (stL (fun t => !dnB ((runF x.tree (ownR x.spans 30)).getD pn []) (t : Int)) x.outer x.inner i 0).length ((stL (fun t => !dnB ((runF x.tree (ownR x.spans 30)).getD pn []) (t : Int)) x.outer x.inner i 0).flatMap gspC) :: rowI (aw) 45 4 (stL (fun _ => true) x.outer x.inner i 0).length ((stL (fun _ => true) x.outer x.inner i 0).flatMap gspC) :: rowI (.slice (some ⟨gv, 0, none⟩) vs.length cv) 25 1 vs.length vs :: packI its :: blk b1 (pwrL x nv (.slice asp x.spans.length csp) uv qo qs) 33 :: ([] : List Bx.Item)) ∧ (i ≤ 30) ∧ zz = 30 - i) _ ⟨_, rfl, 0, _, _, h1, h7, h9, rfl, rfl, rfl, (by rw [stL_0, stL_0]; exact (((hS.sub (.cons_cons _ (.cons_cons _ (.cons _ (List.Sublist.refl _))))).nilrow 45 4).nilrow 45 4)), (Nat.zero_le _), rfl⟩ ?_
     clear hS
     rintro f w _ ⟨i, ov, aw, h1, h7, h9, h11, h12, h13, hS, hi, rfl⟩
     refine seq ?_
     refine seq ?_
     refine region ?_
     refine sv (yMove h13) ?_
     refine sv (yLss rfl rfl) ?_
     refine nil ?_
     show Code.wp _ _ _ _ _
     refine cond rfl (fun c117 => ?_) (fun c117 => ?_)
     ·
      simp only [BS, ne_eq] at c117
      have hdw : Sl w 3 RFsp (.slice avx ((runF x.tree (ownR x.spans 30)).getD pn []).length cvx) ((runF x.tree (ownR x.spans 30)).getD pn []) := slv_at (hV w (fun it hi => hS.inpack (M := its) (by simp) hi)) hvx
      refine skip ?_
      show Code.wp _ _ _ _ _
      refine seq ?_
      refine block ?_
      refine seq ?_
      refine region ?_
      refine sv (yAsg rfl) ?_
      refine nil ?_
      show Code.wp _ _ _ _ _
      refine seq ?_
      refine seq ?_
      refine region ?_
      refine sv (yAsg rfl) ?_
      refine nil ?_
      show Code.wp _ _ _ _ _
      refine block ?_
      refine loop (fun f w zz => ∃ (k : Nat), f 1 = .pointer (some ⟨b1, 0, none⟩) ∧ f 7 = .bool (provB x.tree x.power (basL x.spans) x.guard) ∧ f 9 = .slice (some ⟨gv, 0, none⟩) vs.length cv ∧ f 11 = ov ∧ f 12 = aw ∧ f 13 = .int .i64 (i : Int) ∧ f 14 = .bool (dnB (((runF x.tree (ownR x.spans 30)).getD pn []).take k) (i : Int)) ∧ f 15 = .int .i64 (k : Int) ∧ StX [] w0 w (rowI (ov) 45 4 (stL (fun t => !dnB ((runF x.tree (ownR x.spans 30)).getD pn []) (t : Int)) x.outer x.inner i 0).length ((stL (fun t => !dnB ((runF x.tree (ownR x.spans 30)).getD pn []) (t : Int)) x.outer x.inner i 0).flatMap gspC) :: rowI (aw) 45 4 (stL (fun _ => true) x.outer x.inner i 0).length ((stL (fun _ => true) x.outer x.inner i 0).flatMap gspC) :: rowI (.slice (some ⟨gv, 0, none⟩) vs.length cv) 25 1 vs.length vs :: packI its :: blk b1 (pwrL x nv (.slice asp x.spans.length csp) uv qo qs) 33 :: ([] : List Bx.Item)) ∧ (k ≤ ((runF x.tree (ownR x.spans 30)).getD pn []).length) ∧ zz = ((runF x.tree (ownR x.spans 30)).getD pn []).length - k) _ ⟨_, rfl, 0, h1, h7, h9, h11, h12, h13, rfl, rfl, hS, (Nat.zero_le _), rfl⟩ ?_
      clear hS
      rintro f w _ ⟨k, h1, h7, h9, h11, h12, h13, h14, h15, hS, hk, rfl⟩
      refine seq ?_
      refine seq ?_
      refine region ?_
      refine sv (yMove h15) ?_
      refine sv (yMove h9) ?_
      refine sv (fa33_2 h1) ?_
      refine sv (yLdB rfl Tryz.isAgg3 (hS.at _) rfl) ?_
      refine sv (yIx0 (m := pn) rfl (rfl.trans (congrArg (Value.int .i64) hpn)) Tryz.runUnderlying39 Tryz.sizeOf25 (by omega)) ?_
      refine sv (yLd rfl Tryz.isAgg25 (out_cell (row_at (hS.row (.slice (some ⟨gv, 0, none⟩) vs.length cv)) rfl (by omega)) hvx)) ?_
      refine sv (yLen rfl Tryz.underlying25) ?_
      refine sv (yLss rfl rfl) ?_
      refine nil ?_
      show Code.wp _ _ _ _ _
      refine cond rfl (fun c127 => ?_) (fun c127 => ?_)
      ·
       simp only [BS, ne_eq] at c127
       obtain ⟨s, hx, hd⟩ := drop_of (l := ((runF x.tree (ownR x.spans 30)).getD pn [])) (k := k) (by omega)
       have hdw : Sl w 3 RFsp (.slice avx ((runF x.tree (ownR x.spans 30)).getD pn []).length cvx) ((runF x.tree (ownR x.spans 30)).getD pn []) := slv_at (hV w (fun it hi => hS.inpack (M := its) (by simp) hi)) hvx
       obtain ⟨_, _, hdv, hdc, hdm, -⟩ := id hdw
       obtain ⟨bs, os, cs, has, -, hcs, hRs, -⟩ := sl_at hdw hx
       obtain ⟨rfl, -⟩ := hRs
       have hst := dn_step (t := (i : Int)) hx
       refine skip ?_
       show Code.wp _ _ _ _ _
       refine seqJ (n := 299) (fun f w => f 1 = .pointer (some ⟨b1, 0, none⟩) ∧ f 7 = .bool (provB x.tree x.power (basL x.spans) x.guard) ∧ f 9 = .slice (some ⟨gv, 0, none⟩) vs.length cv ∧ f 11 = ov ∧ f 12 = aw ∧ f 13 = .int .i64 (i : Int) ∧ f 14 = .bool (dnB (((runF x.tree (ownR x.spans 30)).getD pn []).take (k + 1)) (i : Int)) ∧ f 15 = .int .i64 (k : Int) ∧ StX [] w0 w (rowI (ov) 45 4 (stL (fun t => !dnB ((runF x.tree (ownR x.spans 30)).getD pn []) (t : Int)) x.outer x.inner i 0).length ((stL (fun t => !dnB ((runF x.tree (ownR x.spans 30)).getD pn []) (t : Int)) x.outer x.inner i 0).flatMap gspC) :: rowI (aw) 45 4 (stL (fun _ => true) x.outer x.inner i 0).length ((stL (fun _ => true) x.outer x.inner i 0).flatMap gspC) :: rowI (.slice (some ⟨gv, 0, none⟩) vs.length cv) 25 1 vs.length vs :: packI its :: blk b1 (pwrL x nv (.slice asp x.spans.length csp) uv qo qs) 33 :: ([] : List Bx.Item)) ∧ True) ?_ ?_
       ·
        refine block ?_
        refine region ?_
        refine sv (yMove h14) ?_
        refine sv (yMove rfl) ?_
        refine sg rfl rfl rfl (fun g => (yMove h9)) (fun v132 g132 => ?_)
        refine sg rfl rfl rfl (fun g => (fa33_2 h1)) (fun v133 g133 => ?_)
        refine sg rfl rfl rfl (fun g => (yLdB (g133.1 g) Tryz.isAgg3 (hS.at _) rfl)) (fun v134 g134 => ?_)
        refine sg rfl rfl rfl (fun g => (yIx0 (m := pn) (g132.1 g) ((g134.1 g).trans (congrArg (Value.int .i64) hpn)) Tryz.runUnderlying39 Tryz.sizeOf25 (by omega))) (fun v135 g135 => ?_)
        refine sg rfl rfl rfl (fun g => (yLd (g135.1 g) Tryz.isAgg25 (out_cell (row_at (hS.row (.slice (some ⟨gv, 0, none⟩) vs.length cv)) rfl (by omega)) hvx))) (fun v136 g136 => ?_)
        refine sg rfl rfl rfl (fun g => (yMove h15)) (fun v137 g137 => ?_)
        refine sg rfl rfl rfl (fun g => (yIxa (g136.1 g) has (g137.1 g) Tryz.runUnderlying25 Tryz.sizeOf35 (by omega) (by omega))) (fun v138 g138 => ?_)
        refine sg rfl rfl rfl (fun g => (fa35_1 (g138.1 g))) (fun v139 g139 => ?_)
        refine sg rfl rfl rfl (fun g => (yLd (g139.1 g) Tryz.isAgg3 (hcs.at (j := 1) rfl))) (fun v140 g140 => ?_)
        refine sg rfl rfl rfl (fun g => (yMove h13)) (fun v141 g141 => ?_)
        refine sg rfl rfl rfl (fun g => (yLeq (g140.1 g) (g141.1 g))) (fun v142 g142 => ?_)
        refine sg rfl rfl rfl (fun g => (yMove (g142.1 g))) (fun v143 g143 => ?_)
        refine sgg rfl rfl g143 (fun g => (yMove h13)) (fun v144 g144 => ?_)
        refine sgg rfl rfl g143 (fun g => (yMove h9)) (fun v145 g145 => ?_)
        refine sgg rfl rfl g143 (fun g => (fa33_2 h1)) (fun v146 g146 => ?_)
        refine sgg rfl rfl g143 (fun g => (yLdB (g146.1 g) Tryz.isAgg3 (hS.at _) rfl)) (fun v147 g147 => ?_)
        refine sgg rfl rfl g143 (fun g => (yIx0 (m := pn) (g145.1 g) ((g147.1 g).trans (congrArg (Value.int .i64) hpn)) Tryz.runUnderlying39 Tryz.sizeOf25 (by omega))) (fun v148 g148 => ?_)
        refine sgg rfl rfl g143 (fun g => (yLd (g148.1 g) Tryz.isAgg25 (out_cell (row_at (hS.row (.slice (some ⟨gv, 0, none⟩) vs.length cv)) rfl (by omega)) hvx))) (fun v149 g149 => ?_)
        refine sgg rfl rfl g143 (fun g => (yMove h15)) (fun v150 g150 => ?_)
        refine sgg rfl rfl g143 (fun g => (yIxa (g149.1 g) has (g150.1 g) Tryz.runUnderlying25 Tryz.sizeOf35 (by omega) (by omega))) (fun v151 g151 => ?_)
        refine sgg rfl rfl g143 (fun g => (fa35_2 (g151.1 g))) (fun v152 g152 => ?_)
        refine sgg rfl rfl g143 (fun g => (yLd (g152.1 g) Tryz.isAgg3 (hcs.at (j := 2) rfl))) (fun v153 g153 => ?_)
        refine sgg rfl rfl g143 (fun g => (yLss (g144.1 g) (g153.1 g))) (fun v154 g154 => ?_)
        refine sg rfl rfl rfl (fun g => (yAnd (g143.1 g) (fun hB => (g154.1 ⟨g, hB⟩)) rfl)) (fun v155 g155 => ?_)
        refine sv (yOr rfl rfl (fun hB => (g155.1 hB))) ?_
        refine sv (yAsg rfl) ?_
        refine nil ?_
        exact ⟨_, rfl, h1, h7, h9, h11, h12, h13, (rfl.trans (congrArg Value.bool hst.symm)), h15, hS, trivial⟩
       ·
        clear hS; rintro f w ⟨h1, h7, h9, h11, h12, h13, h14, h15, hS, -⟩
        refine region ?_
        refine sv (yMove h15) ?_
        refine sv (yAdd rfl rfl ⟨by omega, by omega⟩) ?_
        refine sv (yAsg rfl) ?_
        refine nil ?_
        exact ⟨_, _, rfl, ⟨k + 1, h1, h7, h9, h11, h12, h13, h14, rfl, hS, (by omega), rfl⟩, by omega⟩
      ·
       simp only [BS, ne_eq] at c127
       obtain rfl : k = ((runF x.tree (ownR x.spans 30)).getD pn []).length := by omega
       rw [List.take_length] at h14
       refine exit ?_
       show Code.wp _ _ _ _ _
       refine seq ?_
       refine region ?_
       refine sv (yAsg rfl) ?_
       refine nil ?_
       show Code.wp _ _ _ _ _
       refine block ?_
       refine loop (fun f w zz => ∃ (m : Nat) (ov aw : Value), f 1 = .pointer (some ⟨b1, 0, none⟩) ∧ f 7 = .bool (provB x.tree x.power (basL x.spans) x.guard) ∧ f 9 = .slice (some ⟨gv, 0, none⟩) vs.length cv ∧ f 11 = ov ∧ f 12 = aw ∧ f 13 = .int .i64 (i : Int) ∧ f 14 = .bool (dnB ((runF x.tree (ownR x.spans 30)).getD pn []) (i : Int)) ∧ f 16 = .int .i64 (m : Int) ∧ StX [] w0 w (rowI (ov) 45 4 (stL (fun t => !dnB ((runF x.tree (ownR x.spans 30)).getD pn []) (t : Int)) x.outer x.inner i m).length ((stL (fun t => !dnB ((runF x.tree (ownR x.spans 30)).getD pn []) (t : Int)) x.outer x.inner i m).flatMap gspC) :: rowI (aw) 45 4 (stL (fun _ => true) x.outer x.inner i m).length ((stL (fun _ => true) x.outer x.inner i m).flatMap gspC) :: rowI (.slice (some ⟨gv, 0, none⟩) vs.length cv) 25 1 vs.length vs :: packI its :: blk b1 (pwrL x nv (.slice asp x.spans.length csp) uv qo qs) 33 :: ([] : List Bx.Item)) ∧ (m ≤ 10) ∧ zz = 10 - m) _ ⟨_, rfl, 0, ov, aw, h1, h7, h9, h11, h12, h13, h14, rfl, hS, (Nat.zero_le _), rfl⟩ ?_
       clear hS
       rintro f w _ ⟨m, ov, aw, h1, h7, h9, h11, h12, h13, h14, h16, hS, hm, rfl⟩
       refine seq ?_
       refine seq ?_
       refine region ?_
       refine sv (yMove h16) ?_
       refine sv (yLss rfl rfl) ?_
       refine nil ?_
       show Code.wp _ _ _ _ _
       refine cond rfl (fun c158 => ?_) (fun c158 => ?_)
       ·
        simp only [BS, ne_eq] at c158
        have hs1 := st_snoc (fun t => !dnB ((runF x.tree (ownR x.spans 30)).getD pn []) (t : Int)) x.outer x.inner i m
        have hs2 := st_snoc (fun _ => true) x.outer x.inner i m
        have hl1 := stL_len (fun t => !dnB ((runF x.tree (ownR x.spans 30)).getD pn []) (t : Int)) x.outer x.inner i m
        have hl2 := stL_len (fun _ => true) x.outer x.inner i m
        refine skip ?_
        show Code.wp _ _ _ _ _
        refine seq ?_
        refine block ?_
        refine seq ?_
        refine region ?_
        refine sv (yMove h11) ?_
        refine sv (yMove h14) ?_
        refine sv (yNot rfl) ?_
        refine sv (fa33_6 h1) ?_
        refine sv (yLdB rfl Tryz.isAgg3 (hS.at _) rfl) ?_
        refine sv (fa33_7 h1) ?_
        refine sv (yLdB rfl Tryz.isAgg3 (hS.at _) rfl) ?_
        refine sv (yBuild Tryz.zeroValue45 rfl pl45 (.cons rfl rfl (.cons rfl rfl (.cons rfl rfl (.cons rfl rfl .nil)))) rfl) ?_
        refine sbslice hS Tryz.underlying43 Tryz.sizeOf45 rfl Tryz.zeroValue45 rfl (.cons rfl rfl .nil) rfl ?_; clear hS; intro b169 w hS
        refine sapp (bytes := 32) (size := 4) (v := ov) (m := 1) hS rfl rfl Tryz.underlying43 ti45 rfl rfl rfl rfl (by decide) (blk_cells (hS.at _)) rfl rfl (by omega) (by omega) ?_; clear hS; intro v170 w hS
        refine sv (yAsg rfl) ?_
        refine nil ?_
        show Code.wp _ _ _ _ _
        refine region ?_
        refine sv (yMove h12) ?_
        refine sv (fa33_6 h1) ?_
        refine sv (yLdB rfl Tryz.isAgg3 (hS.at _) rfl) ?_
        refine sv (fa33_7 h1) ?_
        refine sv (yLdB rfl Tryz.isAgg3 (hS.at _) rfl) ?_
        refine sv (yBuild Tryz.zeroValue45 rfl pl45 (.cons rfl rfl (.cons rfl rfl (.cons rfl rfl (.cons rfl rfl .nil)))) rfl) ?_
        refine sbslice hS Tryz.underlying43 Tryz.sizeOf45 rfl Tryz.zeroValue45 rfl (.cons rfl rfl .nil) rfl ?_; clear hS; intro b177 w hS
        refine sapp (bytes := 32) (size := 4) (v := aw) (m := 1) hS rfl rfl Tryz.underlying43 ti45 rfl rfl rfl rfl (by decide) (blk_cells (hS.at _)) rfl rfl (by omega) (by omega) ?_; clear hS; intro v178 w hS
        refine sv (yAsg rfl) ?_
        refine nil ?_
        show Code.wp _ _ _ _ _
        refine cutC (.cons (us rfl (us rfl (us rfl (us rfl (us rfl (us rfl (us rfl (us rfl (us rfl (us rfl (us rfl (us rfl (us rfl (us rfl (us rfl (us rfl (us rfl (us rfl (us rfl (us rfl (us rfl (us rfl h1)))))))))))))))))))))) (.cons (us rfl (us rfl (us rfl (us rfl (us rfl (us rfl (us rfl (us rfl (us rfl (us rfl (us rfl (us rfl (us rfl (us rfl (us rfl (us rfl (us rfl (us rfl (us rfl (us rfl (us rfl (us rfl h7)))))))))))))))))))))) (.cons (us rfl (us rfl (us rfl (us rfl (us rfl (us rfl (us rfl (us rfl (us rfl (us rfl (us rfl (us rfl (us rfl (us rfl (us rfl (us rfl (us rfl (us rfl (us rfl (us rfl (us rfl (us rfl h9)))))))))))))))))))))) (.cons (us rfl (us rfl (us rfl (us rfl (us rfl (us rfl (us rfl (us rfl (us rfl uh))))))))) (.cons uh (.cons (us rfl (us rfl (us rfl (us rfl (us rfl (us rfl (us rfl (us rfl (us rfl (us rfl (us rfl (us rfl (us rfl (us rfl (us rfl (us rfl (us rfl (us rfl (us rfl (us rfl (us rfl (us rfl h13)))))))))))))))))))))) (.cons (us rfl (us rfl (us rfl (us rfl (us rfl (us rfl (us rfl (us rfl (us rfl (us rfl (us rfl (us rfl (us rfl (us rfl (us rfl (us rfl (us rfl (us rfl (us rfl (us rfl (us rfl (us rfl h14)))))))))))))))))))))) (.cons (us rfl (us rfl (us rfl (us rfl (us rfl (us rfl (us rfl (us rfl (us rfl (us rfl (us rfl (us rfl (us rfl (us rfl (us rfl (us rfl (us rfl (us rfl (us rfl (us rfl (us rfl (us rfl h16)))))))))))))))))))))) .nil)))))))) ?_
        rintro f ⟨h1, h7, h9, h11, h12, h13, h14, h16, -⟩
        refine region ?_
        refine sv (yMove h16) ?_
        refine sv (yAdd rfl rfl ⟨by omega, by omega⟩) ?_
        refine sv (yAsg rfl) ?_
        refine nil ?_
        exact ⟨_, _, rfl, ⟨m + 1, _, _, h1, h7, h9, h11, h12, h13, h14, rfl, (by rw [hs1.1, hs1.2, hs2.1, hs2.2]; exact hS.sub (.cons _ (.cons _ (List.Sublist.refl _)))), (by omega), rfl⟩, by omega⟩
       ·
        simp only [BS, ne_eq] at c158
        obtain rfl : m = 10 := by omega
        refine exit ?_
        show Code.wp _ _ _ _ _
        refine region ?_
        refine sv (yMove h13) ?_
        refine sv (yAdd rfl rfl ⟨by omega, by omega⟩) ?_
        refine sv (yAsg rfl) ?_
        refine nil ?_
        exact ⟨_, _, rfl, ⟨i + 1, ov, aw, h1, h7, h9, h11, h12, rfl, (by simp only [stL_n]; exact hS), (by omega), rfl⟩, by omega⟩
     ·
      simp only [BS, ne_eq] at c117
      obtain rfl : i = 30 := by omega
      refine exit ?_
      show Code.wp _ _ _ _ _
      refine seq ?_
      refine region ?_
      refine sv (fa33_4 h1) ?_
      refine sv (yLdBA rfl Tryz.isAgg29 Tryz.sizeOf29 (hS.at _) rfl rfl) ?_
      refine sv (fa33_5 h1) ?_
      refine sv (yLdBA rfl Tryz.isAgg31 Tryz.sizeOf31 (hS.at _) rfl rfl) ?_
      refine sv (yMove h11) ?_
      refine scall Tryz.call7 (.cons rfl (.cons rfl (.cons rfl .nil))) (c_RunG (g := x.gate) (s := x.st) (hP.gate.ext hS.ext) (sl_gsp (hS.row ov)) (fun t ht => (stL_mem 30 0 t ht).1)) ?_
      rintro _ w ⟨a1, rfl, hM⟩; replace hS := hS.call1 hM; clear hM
      refine sv (yMove rfl) ?_
      refine sv (yExt rfl rfl) ?_
      refine sv (yExt rfl rfl) ?_
      refine sv (yAsg rfl) ?_
      refine sv (yAsg rfl) ?_
      refine nil ?_
      show Code.wp _ _ _ _ _
      refine seq ?_
      refine region ?_
      refine sv (fa33_4 h1) ?_
      refine sv (yLdBA rfl Tryz.isAgg29 Tryz.sizeOf29 (hS.at _) rfl rfl) ?_
      refine sv (fa33_5 h1) ?_
      refine sv (yLdBA rfl Tryz.isAgg31 Tryz.sizeOf31 (hS.at _) rfl rfl) ?_
      refine sv (yMove h12) ?_
      refine scall Tryz.call7 (.cons rfl (.cons rfl (.cons rfl .nil))) (c_RunG (g := x.gate) (s := x.st) (hP.gate.ext hS.ext) (sl_gsp (hS.row aw)) (fun t ht => (stL_mem 30 0 t ht).1)) ?_
      rintro _ w ⟨a2, rfl, hM⟩; replace hS := hS.call1 hM; clear hM
      have he : runE x.gate x.st (stL (fun t => !dnB ((runF x.tree (ownR x.spans 30)).getD pn []) (t : Int)) x.outer x.inner 30 0) = runE x.gate x.st (stL (fun _ => true) x.outer x.inner 30 0) := (runE_is ..).trans (runE_is ..).symm
      refine sv (yMove rfl) ?_
      refine sv (yExt rfl rfl) ?_
      refine sv (yExt rfl rfl) ?_
      refine sv (yAsg rfl) ?_
      refine sv (yAsg rfl) ?_
      refine nil ?_
      show Code.wp _ _ _ _ _
      refine seq ?_
      refine seq ?_
      refine cutC (.cons (us rfl (us rfl (us rfl (us rfl (us rfl (us rfl (us rfl (us rfl (us rfl (us rfl (us rfl (us rfl (us rfl (us rfl (us rfl (us rfl (us rfl (us rfl (us rfl (us rfl (us rfl (us rfl (us rfl (us rfl h1)))))))))))))))))))))))) (.cons (us rfl (us rfl (us rfl (us rfl (us rfl (us rfl (us rfl (us rfl (us rfl (us rfl (us rfl (us rfl (us rfl (us rfl (us rfl (us rfl (us rfl (us rfl (us rfl (us rfl (us rfl (us rfl (us rfl (us rfl h7)))))))))))))))))))))))) (.cons (us rfl (us rfl (us rfl (us rfl (us rfl (us rfl (us rfl (us rfl (us rfl (us rfl (us rfl uh))))))))))) (.cons uh (.cons (us rfl (us rfl (us rfl (us rfl (us rfl (us rfl (us rfl (us rfl (us rfl (us rfl (us rfl (us rfl uh)))))))))))) (.cons (us rfl uh) .nil)))))) ?_
      rintro f ⟨h1, h7, h8, h10, h17, h18, -⟩
      refine region ?_
      refine sv (yMove h8) ?_
      refine sv (yNeq rfl rfl) ?_
      refine sv (yMove rfl) ?_
      refine sg rfl rfl rfl (fun g => (yMove h10)) (fun v200 g200 => ?_)
      refine sg rfl rfl rfl (fun g => (yNeq (g200.1 g) rfl)) (fun v201 g201 => ?_)
      refine sv (yOr rfl rfl (fun hB => (g201.1 hB))) ?_
      refine nil ?_
      show Code.wp _ _ _ _ _
      refine cond rfl (fun c202 => ?_) (fun c202 => ?_)
      ·
       refine seq ?_
       refine region ?_
       refine sv (yMove h8) ?_
       refine sv (yMove h10) ?_
       refine sv (yEql rfl rfl) ?_
       refine sv (yMove rfl) ?_
       refine ungo rfl rfl (congrArg Value.bool (decide_eq_true he)) ?_
       refine scall Tryz.call6 .nil c_Awake ?_
       rintro _ w ⟨rfl, hE⟩; replace hS := hS.step hE; clear hE
       refine sv (yPick (B := true) (rfl.trans (congrArg Value.bool (decide_eq_true he))) (fun _ => rfl) (fun h => nomatch h)) ?_
       refine sv (yAsg rfl) ?_
       refine nil ?_
       show Code.wp _ _ _ _ _
       refine wp_ret (thenR ?_)
       exact retV (res1 rfl rfl) hS.ext
      ·
       have he0 : runE x.gate x.st (stL (fun t => !dnB ((runF x.tree (ownR x.spans 30)).getD pn []) (t : Int)) x.outer x.inner 30 0) = 0 := by simpa using (Bool.or_eq_false_iff.1 c202).1
       have he1 : runE x.gate x.st (stL (fun _ => true) x.outer x.inner 30 0) = 0 := he ▸ he0
       obtain ⟨hck, hls, hat⟩ := run_at he0
       have hok := gat_ok x.gate hck
       have hgs := lost_iff.1 hls
       have hla : (runO x.gate x.st (stL (fun t => !dnB ((runF x.tree (ownR x.spans 30)).getD pn []) (t : Int)) x.outer x.inner 30 0)).length = 300 := by rw [run_yes he0, runG_len, stL_len]
       have hlb : (runO x.gate x.st (stL (fun _ => true) x.outer x.inner 30 0)).length = 300 := by rw [run_yes he1, runG_len, stL_len]
       obtain ⟨aa, ca, rfl⟩ := row_shape (hS.row a1)
       obtain ⟨ba, ca2, rfl⟩ := row_shape (hS.row a2)
       obtain ⟨ga, rfl, -⟩ := row_get (hS.row (.slice aa (runO x.gate x.st (stL (fun t => !dnB ((runF x.tree (ownR x.spans 30)).getD pn []) (t : Int)) x.outer x.inner 30 0)).length ca)) (by omega)
       obtain ⟨gb, rfl, -⟩ := row_get (hS.row (.slice ba (runO x.gate x.st (stL (fun _ => true) x.outer x.inner 30 0)).length ca2)) (by omega)
       replace hS : StX [] w0 w (rowI (.slice (some ⟨gb, 0, none⟩) (runO x.gate x.st (stL (fun _ => true) x.outer x.inner 30 0)).length ca2) 31 3 (runO x.gate x.st (stL (fun _ => true) x.outer x.inner 30 0)).length ((runO x.gate x.st (stL (fun _ => true) x.outer x.inner 30 0)).flatMap gstC) :: rowI (.slice (some ⟨ga, 0, none⟩) (runO x.gate x.st (stL (fun t => !dnB ((runF x.tree (ownR x.spans 30)).getD pn []) (t : Int)) x.outer x.inner 30 0)).length ca) 31 3 (runO x.gate x.st (stL (fun t => !dnB ((runF x.tree (ownR x.spans 30)).getD pn []) (t : Int)) x.outer x.inner 30 0)).length ((runO x.gate x.st (stL (fun t => !dnB ((runF x.tree (ownR x.spans 30)).getD pn []) (t : Int)) x.outer x.inner 30 0)).flatMap gstC) :: blk b1 (pwrL x nv (.slice asp x.spans.length csp) uv qo qs) 33 :: ([] : List Bx.Item)) := hS.sub (.cons_cons _ (.cons_cons _ (.cons _ (.cons _ (.cons _ (.cons _ (List.Sublist.refl _)))))))
       have hob : provB x.tree x.power (basL x.spans) x.guard = true → runO x.gate x.st (stL (fun t => !dnB ((runF x.tree (ownR x.spans 30)).getD pn []) (t : Int)) x.outer x.inner 30 0) = runO x.gate x.st (stL (fun _ => true) x.outer x.inner 30 0) := fun h => by
        have h7 := hsafe h
        rw [h7]; rfl
       refine skip ?_
       show Code.wp _ _ _ _ _
       refine seq ?_
       refine seq ?_
       refine region ?_
       refine sv (yMove h17) ?_
       refine sv (yLen rfl Tryz.underlying46) ?_
       refine sv (yNeq rfl rfl) ?_
       refine sv (yMove rfl) ?_
       refine sg rfl rfl rfl (fun g => (yMove h18)) (fun v213 g213 => ?_)
       refine sg rfl rfl rfl (fun g => (yLen (g213.1 g) Tryz.underlying46)) (fun v214 g214 => ?_)
       refine sg rfl rfl rfl (fun g => (yNeq (g214.1 g) rfl)) (fun v215 g215 => ?_)
       refine sv (yOr rfl rfl (fun hB => (g215.1 hB))) ?_
       refine nil ?_
       show Code.wp _ _ _ _ _
       refine cond rfl (fun c216 => ?_) (fun c216 => ?_)
       ·
        exfalso; rw [hla, hlb] at c216; simp at c216
       ·
        refine skip ?_
        show Code.wp _ _ _ _ _
        refine seq ?_
        refine seq ?_
        refine region ?_
        refine sv (yAsg rfl) ?_
        refine nil ?_
        show Code.wp _ _ _ _ _
        refine block ?_
        refine loop (fun f w zz => ∃ (k : Nat), f 1 = .pointer (some ⟨b1, 0, none⟩) ∧ f 7 = .bool (provB x.tree x.power (basL x.spans) x.guard) ∧ f 17 = .slice (some ⟨ga, 0, none⟩) (runO x.gate x.st (stL (fun t => !dnB ((runF x.tree (ownR x.spans 30)).getD pn []) (t : Int)) x.outer x.inner 30 0)).length ca ∧ f 18 = .slice (some ⟨gb, 0, none⟩) (runO x.gate x.st (stL (fun _ => true) x.outer x.inner 30 0)).length ca2 ∧ f 19 = .int .i64 (k : Int) ∧ StX [] w0 w (rowI (.slice (some ⟨gb, 0, none⟩) (runO x.gate x.st (stL (fun _ => true) x.outer x.inner 30 0)).length ca2) 31 3 (runO x.gate x.st (stL (fun _ => true) x.outer x.inner 30 0)).length ((runO x.gate x.st (stL (fun _ => true) x.outer x.inner 30 0)).flatMap gstC) :: rowI (.slice (some ⟨ga, 0, none⟩) (runO x.gate x.st (stL (fun t => !dnB ((runF x.tree (ownR x.spans 30)).getD pn []) (t : Int)) x.outer x.inner 30 0)).length ca) 31 3 (runO x.gate x.st (stL (fun t => !dnB ((runF x.tree (ownR x.spans 30)).getD pn []) (t : Int)) x.outer x.inner 30 0)).length ((runO x.gate x.st (stL (fun t => !dnB ((runF x.tree (ownR x.spans 30)).getD pn []) (t : Int)) x.outer x.inner 30 0)).flatMap gstC) :: blk b1 (pwrL x nv (.slice asp x.spans.length csp) uv qo qs) 33 :: ([] : List Bx.Item)) ∧ (k ≤ 300) ∧ zz = 300 - k) _ ⟨_, rfl, 0, h1, h7, h17, h18, rfl, hS, (Nat.zero_le _), rfl⟩ ?_
        clear hS
        rintro f w _ ⟨k, h1, h7, h17, h18, h19, hS, hk, rfl⟩
        refine seq ?_
        refine seq ?_
        refine region ?_
        refine sv (yMove h19) ?_
        refine sv (yMove h17) ?_
        refine sv (yLen rfl Tryz.underlying46) ?_
        refine sv (yLss rfl rfl) ?_
        refine sv (yMove rfl) ?_
        refine sg rfl rfl rfl (fun g => (yMove h7)) (fun v222 g222 => ?_)
        refine sv (yAnd rfl (fun hB => (g222.1 hB)) rfl) ?_
        refine nil ?_
        show Code.wp _ _ _ _ _
        refine cond rfl (fun c223 => ?_) (fun c223 => ?_)
        ·
         rw [Bool.and_eq_true, decide_eq_true_eq] at c223
         obtain ⟨hk3, hsf⟩ := c223
         have hkl : k < 300 := by omega
         obtain ⟨r, hra⟩ : ∃ r, (runO x.gate x.st (stL (fun t => !dnB ((runF x.tree (ownR x.spans 30)).getD pn []) (t : Int)) x.outer x.inner 30 0))[k]? = some r := ⟨_, List.getElem?_eq_getElem (show k < _ by omega)⟩
         have hrb := hra
         rw [hob hsf] at hrb
         refine skip ?_
         show Code.wp _ _ _ _ _
         refine seq ?_
         refine block ?_
         refine seq ?_
         refine region_draw mixed (by kernel_rfl) hS ?_
         refine qv (fun w hS => (yMove h17)) ?_
         refine qv (fun w hS => (yMove h19)) ?_
         refine qv (fun w hS => (yIx0 (m := k) rfl rfl Tryz.runUnderlying46 Tryz.sizeOf31 (by omega))) ?_
         refine qv (fun w hS => (yLdA rfl Tryz.isAgg31 Tryz.sizeOf31 (flat_cells0 (enc := gstC) gstC_len (row_at (hS.row (.slice (some ⟨ga, 0, none⟩) (runO x.gate x.st (stL (fun t => !dnB ((runF x.tree (ownR x.spans 30)).getD pn []) (t : Int)) x.outer x.inner 30 0)).length ca)) rfl (by omega)) hra) rfl)) ?_
         refine qv (fun w hS => (yMove h18)) ?_
         refine qv (fun w hS => (yMove h19)) ?_
         refine qv (fun w hS => (yIx0 (m := k) rfl rfl Tryz.runUnderlying46 Tryz.sizeOf31 (by omega))) ?_
         refine qv (fun w hS => (yLdA rfl Tryz.isAgg31 Tryz.sizeOf31 (flat_cells0 (enc := gstC) gstC_len (row_at (hS.row (.slice (some ⟨gb, 0, none⟩) (runO x.gate x.st (stL (fun _ => true) x.outer x.inner 30 0)).length ca2)) rfl (by omega)) hrb) rfl)) ?_
         refine qv (fun w hS => (neS31 rfl rfl)) ?_
         clear hS; refine qnil (fun w hS => ?_)
         show Code.wp _ _ _ _ _
         refine cond rfl (fun c234 => ?_) (fun c234 => ?_)
         ·
          exfalso; simp at c234
         ·
          refine skip ?_
          show Code.wp _ _ _ _ _
          refine cutC (.cons (us rfl (us rfl (us rfl (us rfl (us rfl (us rfl (us rfl (us rfl (us rfl (us rfl (us rfl (us rfl (us rfl (us rfl (us rfl (us rfl h1)))))))))))))))) (.cons (us rfl (us rfl (us rfl (us rfl (us rfl (us rfl (us rfl (us rfl (us rfl (us rfl (us rfl (us rfl (us rfl (us rfl (us rfl (us rfl h7)))))))))))))))) (.cons (us rfl (us rfl (us rfl (us rfl (us rfl (us rfl (us rfl (us rfl (us rfl (us rfl (us rfl (us rfl (us rfl (us rfl (us rfl (us rfl h17)))))))))))))))) (.cons (us rfl (us rfl (us rfl (us rfl (us rfl (us rfl (us rfl (us rfl (us rfl (us rfl (us rfl (us rfl (us rfl (us rfl (us rfl (us rfl h18)))))))))))))))) (.cons (us rfl (us rfl (us rfl (us rfl (us rfl (us rfl (us rfl (us rfl (us rfl (us rfl (us rfl (us rfl (us rfl (us rfl (us rfl (us rfl h19)))))))))))))))) .nil))))) ?_
          rintro f ⟨h1, h7, h17, h18, h19, -⟩
          refine region ?_
          refine sv (yMove h19) ?_
          refine sv (yAdd rfl rfl ⟨by omega, by omega⟩) ?_
          refine sv (yAsg rfl) ?_
          refine nil ?_
          exact ⟨_, _, rfl, ⟨k + 1, h1, h7, h17, h18, rfl, hS, (by omega), rfl⟩, by omega⟩
        ·
         refine exit ?_
         show Code.wp _ _ _ _ _
         refine seq ?_
         refine region ?_
         refine sv (fa33_4 h1) ?_
         refine sv (yLdBA rfl Tryz.isAgg29 Tryz.sizeOf29 (hS.at _) rfl rfl) ?_
         refine sv (fa33_6 h1) ?_
         refine sv (yLdB rfl Tryz.isAgg3 (hS.at _) rfl) ?_
         refine sv (fa33_7 h1) ?_
         refine sv (yLdB rfl Tryz.isAgg3 (hS.at _) rfl) ?_
         refine scall Tryz.call8 (.cons rfl (.cons rfl (.cons rfl .nil))) (c_Falls (g := x.gate) (o := x.outer) (i := x.inner) (hP.gate.ext hS.ext)) ?_
         rintro _ w ⟨fp, rfl, hfa, hE⟩; replace hS := hS.step hE; clear hE
         refine sv (yMove rfl) ?_
         refine sv (yExt rfl rfl) ?_
         refine sv (yExt rfl rfl) ?_
         refine sv (yAsg rfl) ?_
         refine sv (yAsg rfl) ?_
         refine nil ?_
         show Code.wp _ _ _ _ _
         refine seq ?_
         refine seq ?_
         refine cutC (.cons (us rfl (us rfl (us rfl (us rfl (us rfl (us rfl (us rfl (us rfl (us rfl (us rfl (us rfl (us rfl (us rfl (us rfl (us rfl (us rfl (us rfl (us rfl (us rfl h1))))))))))))))))))) (.cons uh (.cons (us rfl (us rfl (us rfl (us rfl (us rfl (us rfl (us rfl (us rfl (us rfl (us rfl (us rfl (us rfl (us rfl (us rfl (us rfl (us rfl (us rfl (us rfl (us rfl h17))))))))))))))))))) (.cons (us rfl uh) .nil)))) ?_
         rintro f ⟨h1, h8, h17, h20, -⟩
         refine region ?_
         refine sv (yMove h8) ?_
         refine sv (yNeq rfl rfl) ?_
         refine sv (yMove rfl) ?_
         refine sg rfl rfl rfl (fun g => (yMove h20)) (fun v248 g248 => ?_)
         refine sg rfl rfl rfl (fun g => (yNeq (g248.1 g) rfl)) (fun v249 g249 => ?_)
         refine sv (yOr rfl rfl (fun hB => (g249.1 hB))) ?_
         refine sv (yMove rfl) ?_
         refine sg rfl rfl rfl (fun g => (fa33_5 h1)) (fun v252 g252 => ?_)
         refine sg rfl rfl rfl (fun g => (fa31_2 (g252.1 g))) (fun v253 g253 => ?_)
         refine sg rfl rfl rfl (fun g => (yLdB (g253.1 g) Tryz.isAgg4 (hS.at _) rfl)) (fun v254 g254 => ?_)
         refine sv (yOr rfl rfl (fun hB => (g254.1 hB))) ?_
         refine nil ?_
         show Code.wp _ _ _ _ _
         refine cond rfl (fun c255 => ?_) (fun c255 => ?_)
         ·
          refine seq ?_
          refine region ?_
          refine sv (yMove h8) ?_
          refine sv (yEql rfl rfl) ?_
          refine sv (yMove rfl) ?_
          refine ungo rfl rfl (congrArg Value.bool (decide_eq_true hat)) ?_
          refine scall Tryz.call6 .nil c_Awake ?_
          rintro _ w ⟨rfl, hE⟩; replace hS := hS.step hE; clear hE
          refine sv (yPick (B := true) (rfl.trans (congrArg Value.bool (decide_eq_true hat))) (fun _ => rfl) (fun h => nomatch h)) ?_
          refine sv (yAsg rfl) ?_
          refine nil ?_
          show Code.wp _ _ _ _ _
          refine wp_ret (thenR ?_)
          exact retV (res1 rfl rfl) hS.ext
         ·
          simp only [Bool.or_eq_false_iff, decide_eq_false_iff_not, Decidable.not_not] at c255
          obtain ⟨⟨-, hfp⟩, hbo⟩ := c255
          have hfall := hfa hat hfp
          have hmb := many_bd hok hgs
          have hgr := hok.gravity
          have htr := hok.trav
          have hpo := hgs.pos
          refine skip ?_
          show Code.wp _ _ _ _ _
          refine seq ?_
          refine region ?_
          refine sv (fa33_4 h1) ?_
          refine sv (fa29_2 rfl) ?_
          refine sv (yLdB rfl Tryz.isAgg3 (hS.at _) rfl) ?_
          refine sv (fa33_5 h1) ?_
          refine sv (fa31_0 rfl) ?_
          refine sv (yLdB rfl Tryz.isAgg3 (hS.at _) rfl) ?_
          refine sv (ySub rfl rfl ⟨by omega, by omega⟩) ?_
          refine sv (fa33_4 h1) ?_
          refine sv (fa29_14 rfl) ?_
          refine sv (yLdB rfl Tryz.isAgg3 (hS.at _) rfl) ?_
          refine sv (yAdd rfl rfl ⟨by omega, by omega⟩) ?_
          refine sv (ySub rfl rfl ⟨by omega, by omega⟩) ?_
          refine sv (fa33_4 h1) ?_
          refine sv (fa29_14 rfl) ?_
          refine sv (yLdB rfl Tryz.isAgg3 (hS.at _) rfl) ?_
          refine sv (yMax rfl rfl) ?_
          refine sv (yQuoP rfl rfl ⟨by omega, by omega⟩ (by omega)) ?_
          refine sv (Y.to (yAsg rfl) (show Value.int .i64 _ = .int .i64 (manyF x.gate x.st) from rfl)) ?_
          refine nil ?_
          show Code.wp _ _ _ _ _
          refine seq ?_
          refine cutC (.cons (us rfl (us rfl (us rfl (us rfl (us rfl (us rfl (us rfl (us rfl (us rfl (us rfl (us rfl (us rfl (us rfl (us rfl (us rfl (us rfl (us rfl (us rfl (us rfl (us rfl (us rfl (us rfl (us rfl (us rfl (us rfl (us rfl (us rfl (us rfl (us rfl h1))))))))))))))))))))))))))))) (.cons (us rfl (us rfl (us rfl (us rfl (us rfl (us rfl (us rfl (us rfl (us rfl (us rfl (us rfl (us rfl (us rfl (us rfl (us rfl (us rfl (us rfl (us rfl (us rfl (us rfl (us rfl (us rfl (us rfl (us rfl (us rfl (us rfl (us rfl (us rfl (us rfl h17))))))))))))))))))))))))))))) (.cons uh .nil))) ?_
          rintro f ⟨h1, h17, h21, -⟩
          rcases (show (manyF x.gate x.st) = 0 ∨ ((manyF x.gate x.st) ≠ 0 ∧ 300 < (manyF x.gate x.st)) ∨ ((manyF x.gate x.st) ≠ 0 ∧ (manyF x.gate x.st) ≤ 300) by omega) with hm | hm | hm
          ·
           refine region_mix (fun w => StX [] w0 w (rowI (.slice (some ⟨gb, 0, none⟩) (runO x.gate x.st (stL (fun _ => true) x.outer x.inner 30 0)).length ca2) 31 3 (runO x.gate x.st (stL (fun _ => true) x.outer x.inner 30 0)).length ((runO x.gate x.st (stL (fun _ => true) x.outer x.inner 30 0)).flatMap gstC) :: rowI (.slice (some ⟨ga, 0, none⟩) (runO x.gate x.st (stL (fun t => !dnB ((runF x.tree (ownR x.spans 30)).getD pn []) (t : Int)) x.outer x.inner 30 0)).length ca) 31 3 (runO x.gate x.st (stL (fun t => !dnB ((runF x.tree (ownR x.spans 30)).getD pn []) (t : Int)) x.outer x.inner 30 0)).length ((runO x.gate x.st (stL (fun t => !dnB ((runF x.tree (ownR x.spans 30)).getD pn []) (t : Int)) x.outer x.inner 30 0)).flatMap gstC) :: blk b1 (pwrL x nv (.slice asp x.spans.length csp) uv qo qs) 33 :: ([] : List Bx.Item))) 22 mixed hS ?_
           clear hS; intro w hS
           refine f_step 0 (by kernel_rfl) rfl (fun c a a' w h => by obtain ⟨_, v, hv, _⟩ := h; cases hv) (by refine hS.sub ?_; repeat first | exact List.Sublist.refl _ | exact List.nil_sublist _ | apply List.Sublist.cons_cons | apply List.Sublist.cons) (fun w hS => (yMove h21)) ?_
           refine f_step 1 (by kernel_rfl) rfl (fun c a a' w h => by obtain ⟨_, v, hv, _⟩ := h; cases hv) (by refine hS.sub ?_; repeat first | exact List.Sublist.refl _ | exact List.nil_sublist _ | apply List.Sublist.cons_cons | apply List.Sublist.cons) (fun w hS => (yEql rfl rfl)) ?_
           refine f_step 2 (by kernel_rfl) rfl (fun c a a' w h => by obtain ⟨_, v, hv, _⟩ := h; cases hv) (by refine hS.sub ?_; repeat first | exact List.Sublist.refl _ | exact List.nil_sublist _ | apply List.Sublist.cons_cons | apply List.Sublist.cons) (fun w hS => (yMove rfl)) ?_
           refine f_skip 3 (by kernel_rfl) rfl rfl rfl (fun c a a' w h => by obtain ⟨_, v, hv, _⟩ := h; cases hv) (by refine hS.sub ?_; repeat first | exact List.Sublist.refl _ | exact List.nil_sublist _ | apply List.Sublist.cons_cons | apply List.Sublist.cons) (u := (.bool (decide ((manyF x.gate x.st) = 0)))) rfl (by rw [decide_eq_true hm]; simp) ?_
           refine f_skip 4 (by kernel_rfl) rfl rfl rfl (fun c a a' w h => by obtain ⟨_, v, hv, _⟩ := h; cases hv) (by refine hS.sub ?_; repeat first | exact List.Sublist.refl _ | exact List.nil_sublist _ | apply List.Sublist.cons_cons | apply List.Sublist.cons) (u := (.bool (decide ((manyF x.gate x.st) = 0)))) rfl (by rw [decide_eq_true hm]; simp) ?_
           refine f_step 5 (by kernel_rfl) rfl (fun c a a' w h => by obtain ⟨_, v, hv, _⟩ := h; cases hv) (by refine hS.sub ?_; repeat first | exact List.Sublist.refl _ | exact List.nil_sublist _ | apply List.Sublist.cons_cons | apply List.Sublist.cons) (fun w hS => (yPick (B := true) (rfl.trans (congrArg Value.bool (decide_eq_true hm))) (fun _ => rfl) (fun h => nomatch h))) ?_
           refine f_step 6 (by kernel_rfl) rfl (fun c a a' w h => by obtain ⟨_, v, hv, _⟩ := h; cases hv) (by refine hS.sub ?_; repeat first | exact List.Sublist.refl _ | exact List.nil_sublist _ | apply List.Sublist.cons_cons | apply List.Sublist.cons) (fun w hS => (yMove rfl)) ?_
           refine f_skip 7 (by kernel_rfl) rfl rfl rfl (fun c a a' w h => by obtain ⟨_, v, hv, _⟩ := h; cases hv) (by refine hS.sub ?_; repeat first | exact List.Sublist.refl _ | exact List.nil_sublist _ | apply List.Sublist.cons_cons | apply List.Sublist.cons) (u := (.bool true)) rfl (by simp) ?_
           refine f_skip 8 (by kernel_rfl) rfl rfl rfl (fun c a a' w h => by obtain ⟨_, v, hv, _⟩ := h; cases hv) (by refine hS.sub ?_; repeat first | exact List.Sublist.refl _ | exact List.nil_sublist _ | apply List.Sublist.cons_cons | apply List.Sublist.cons) (u := (.bool true)) rfl (by simp) ?_
           refine f_skip 9 (by kernel_rfl) rfl rfl rfl (fun c a a' w h => by obtain ⟨_, v, hv, _⟩ := h; cases hv) (by refine hS.sub ?_; repeat first | exact List.Sublist.refl _ | exact List.nil_sublist _ | apply List.Sublist.cons_cons | apply List.Sublist.cons) (u := (.bool true)) rfl (by simp) ?_
           refine f_skip 10 (by kernel_rfl) rfl rfl rfl (fun c a a' w h => by obtain ⟨_, v, hv, _⟩ := h; cases hv) (by refine hS.sub ?_; repeat first | exact List.Sublist.refl _ | exact List.nil_sublist _ | apply List.Sublist.cons_cons | apply List.Sublist.cons) (u := (.bool true)) rfl (by simp) ?_
           refine f_skip 11 (by kernel_rfl) rfl rfl rfl (fun c a a' w h => by obtain ⟨_, v, hv, _⟩ := h; cases hv) (by refine hS.sub ?_; repeat first | exact List.Sublist.refl _ | exact List.nil_sublist _ | apply List.Sublist.cons_cons | apply List.Sublist.cons) (u := (.bool true)) rfl (by simp) ?_
           refine f_skip 12 (by kernel_rfl) rfl rfl rfl (fun c a a' w h => by obtain ⟨_, v, hv, _⟩ := h; cases hv) (by refine hS.sub ?_; repeat first | exact List.Sublist.refl _ | exact List.nil_sublist _ | apply List.Sublist.cons_cons | apply List.Sublist.cons) (u := (.bool true)) rfl (by simp) ?_
           refine f_skip 13 (by kernel_rfl) rfl rfl rfl (fun c a a' w h => by obtain ⟨_, v, hv, _⟩ := h; cases hv) (by refine hS.sub ?_; repeat first | exact List.Sublist.refl _ | exact List.nil_sublist _ | apply List.Sublist.cons_cons | apply List.Sublist.cons) (u := (.bool true)) rfl (by simp) ?_
           refine f_skip 14 (by kernel_rfl) rfl rfl rfl (fun c a a' w h => by obtain ⟨_, v, hv, _⟩ := h; cases hv) (by refine hS.sub ?_; repeat first | exact List.Sublist.refl _ | exact List.nil_sublist _ | apply List.Sublist.cons_cons | apply List.Sublist.cons) (u := (.bool true)) rfl (by simp) ?_
           refine f_skip 15 (by kernel_rfl) rfl rfl rfl (fun c a a' w h => by obtain ⟨_, v, hv, _⟩ := h; cases hv) (by refine hS.sub ?_; repeat first | exact List.Sublist.refl _ | exact List.nil_sublist _ | apply List.Sublist.cons_cons | apply List.Sublist.cons) (u := (.bool true)) rfl (by simp) ?_
           refine f_skip 16 (by kernel_rfl) rfl rfl rfl (fun c a a' w h => by obtain ⟨_, v, hv, _⟩ := h; cases hv) (by refine hS.sub ?_; repeat first | exact List.Sublist.refl _ | exact List.nil_sublist _ | apply List.Sublist.cons_cons | apply List.Sublist.cons) (u := (.bool true)) rfl (by simp) ?_
           refine f_step 17 (by kernel_rfl) rfl (fun c a a' w h => by obtain ⟨_, v, hv, _⟩ := h; cases hv) (by refine hS.sub ?_; repeat first | exact List.Sublist.refl _ | exact List.nil_sublist _ | apply List.Sublist.cons_cons | apply List.Sublist.cons) (fun w hS => (yPick (B := true) rfl (fun _ => rfl) (fun h => nomatch h))) ?_
           refine f_step 18 (by kernel_rfl) rfl (fun c a a' w h => by obtain ⟨_, v, hv, _⟩ := h; cases hv) (by refine hS.sub ?_; repeat first | exact List.Sublist.refl _ | exact List.nil_sublist _ | apply List.Sublist.cons_cons | apply List.Sublist.cons) (fun w hS => (yMove rfl)) ?_
           show wpA _ _ _ _ _ _ _ _ _ _
           refine a_step (i := 19) (is := []) (by kernel_rfl) ⟨?_, trivial⟩
           refine ⟨_, rfl, ?_⟩
           refine ungo rfl rfl rfl ?_
           refine scall Tryz.call6 .nil c_Awake ?_
           rintro _ w ⟨rfl, hE⟩; replace hS := hS.step hE; clear hE
           refine nil ?_
           refine ⟨fun _ => (by refine hS.sub ?_; repeat first | exact List.Sublist.refl _ | exact List.nil_sublist _ | apply List.Sublist.cons_cons | apply List.Sublist.cons), ?_⟩
           show wpA _ _ _ _ _ _ _ _ _ _
           refine f_step 20 (by kernel_rfl) rfl (fun c a a' w h => by obtain ⟨_, v, hv, _⟩ := h; cases hv) (by refine hS.sub ?_; repeat first | exact List.Sublist.refl _ | exact List.nil_sublist _ | apply List.Sublist.cons_cons | apply List.Sublist.cons) (fun w hS => (yPick (B := true) rfl (fun _ => rfl) (fun h => nomatch h))) ?_
           refine f_step 21 (by kernel_rfl) rfl (fun c a a' w h => by obtain ⟨_, v, hv, _⟩ := h; cases hv) (by refine hS.sub ?_; repeat first | exact List.Sublist.refl _ | exact List.nil_sublist _ | apply List.Sublist.cons_cons | apply List.Sublist.cons) (fun w hS => (yAsg rfl)) ?_
           refine a_end (by kernel_rfl) ?_
           show Code.wp _ _ _ _ _
           refine wp_ret ?_
           exact retV (res1 rfl rfl) hS.ext
          ·
           refine region_mix (fun w => StX [] w0 w (rowI (.slice (some ⟨gb, 0, none⟩) (runO x.gate x.st (stL (fun _ => true) x.outer x.inner 30 0)).length ca2) 31 3 (runO x.gate x.st (stL (fun _ => true) x.outer x.inner 30 0)).length ((runO x.gate x.st (stL (fun _ => true) x.outer x.inner 30 0)).flatMap gstC) :: rowI (.slice (some ⟨ga, 0, none⟩) (runO x.gate x.st (stL (fun t => !dnB ((runF x.tree (ownR x.spans 30)).getD pn []) (t : Int)) x.outer x.inner 30 0)).length ca) 31 3 (runO x.gate x.st (stL (fun t => !dnB ((runF x.tree (ownR x.spans 30)).getD pn []) (t : Int)) x.outer x.inner 30 0)).length ((runO x.gate x.st (stL (fun t => !dnB ((runF x.tree (ownR x.spans 30)).getD pn []) (t : Int)) x.outer x.inner 30 0)).flatMap gstC) :: blk b1 (pwrL x nv (.slice asp x.spans.length csp) uv qo qs) 33 :: ([] : List Bx.Item))) 22 mixed hS ?_
           clear hS; intro w hS
           refine f_step 0 (by kernel_rfl) rfl (fun c a a' w h => by obtain ⟨_, v, hv, _⟩ := h; cases hv) (by refine hS.sub ?_; repeat first | exact List.Sublist.refl _ | exact List.nil_sublist _ | apply List.Sublist.cons_cons | apply List.Sublist.cons) (fun w hS => (yMove h21)) ?_
           refine f_step 1 (by kernel_rfl) rfl (fun c a a' w h => by obtain ⟨_, v, hv, _⟩ := h; cases hv) (by refine hS.sub ?_; repeat first | exact List.Sublist.refl _ | exact List.nil_sublist _ | apply List.Sublist.cons_cons | apply List.Sublist.cons) (fun w hS => (yEql rfl rfl)) ?_
           refine f_step 2 (by kernel_rfl) rfl (fun c a a' w h => by obtain ⟨_, v, hv, _⟩ := h; cases hv) (by refine hS.sub ?_; repeat first | exact List.Sublist.refl _ | exact List.nil_sublist _ | apply List.Sublist.cons_cons | apply List.Sublist.cons) (fun w hS => (yMove rfl)) ?_
           refine f_go 3 (by kernel_rfl) rfl rfl rfl (fun c a a' w h => by obtain ⟨_, v, hv, _⟩ := h; cases hv) (by refine hS.sub ?_; repeat first | exact List.Sublist.refl _ | exact List.nil_sublist _ | apply List.Sublist.cons_cons | apply List.Sublist.cons) (congrArg Value.bool (decide_eq_false hm.1)) (fun w hS => (yMove h21)) ?_
           refine f_go 4 (by kernel_rfl) rfl rfl rfl (fun c a a' w h => by obtain ⟨_, v, hv, _⟩ := h; cases hv) (by refine hS.sub ?_; repeat first | exact List.Sublist.refl _ | exact List.nil_sublist _ | apply List.Sublist.cons_cons | apply List.Sublist.cons) (congrArg Value.bool (decide_eq_false hm.1)) (fun w hS => (yGtr rfl rfl)) ?_
           refine f_step 5 (by kernel_rfl) rfl (fun c a a' w h => by obtain ⟨_, v, hv, _⟩ := h; cases hv) (by refine hS.sub ?_; repeat first | exact List.Sublist.refl _ | exact List.nil_sublist _ | apply List.Sublist.cons_cons | apply List.Sublist.cons) (fun w hS => (yPick (B := false) (rfl.trans (congrArg Value.bool (decide_eq_false hm.1))) (fun h => nomatch h) (fun _ => rfl))) ?_
           refine f_step 6 (by kernel_rfl) rfl (fun c a a' w h => by obtain ⟨_, v, hv, _⟩ := h; cases hv) (by refine hS.sub ?_; repeat first | exact List.Sublist.refl _ | exact List.nil_sublist _ | apply List.Sublist.cons_cons | apply List.Sublist.cons) (fun w hS => (yMove rfl)) ?_
           refine f_skip 7 (by kernel_rfl) rfl rfl rfl (fun c a a' w h => by obtain ⟨_, v, hv, _⟩ := h; cases hv) (by refine hS.sub ?_; repeat first | exact List.Sublist.refl _ | exact List.nil_sublist _ | apply List.Sublist.cons_cons | apply List.Sublist.cons) (u := (.bool (decide (300 < (manyF x.gate x.st))))) rfl (by rw [decide_eq_true hm.2]; simp) ?_
           refine f_skip 8 (by kernel_rfl) rfl rfl rfl (fun c a a' w h => by obtain ⟨_, v, hv, _⟩ := h; cases hv) (by refine hS.sub ?_; repeat first | exact List.Sublist.refl _ | exact List.nil_sublist _ | apply List.Sublist.cons_cons | apply List.Sublist.cons) (u := (.bool (decide (300 < (manyF x.gate x.st))))) rfl (by rw [decide_eq_true hm.2]; simp) ?_
           refine f_skip 9 (by kernel_rfl) rfl rfl rfl (fun c a a' w h => by obtain ⟨_, v, hv, _⟩ := h; cases hv) (by refine hS.sub ?_; repeat first | exact List.Sublist.refl _ | exact List.nil_sublist _ | apply List.Sublist.cons_cons | apply List.Sublist.cons) (u := (.bool (decide (300 < (manyF x.gate x.st))))) rfl (by rw [decide_eq_true hm.2]; simp) ?_
           refine f_skip 10 (by kernel_rfl) rfl rfl rfl (fun c a a' w h => by obtain ⟨_, v, hv, _⟩ := h; cases hv) (by refine hS.sub ?_; repeat first | exact List.Sublist.refl _ | exact List.nil_sublist _ | apply List.Sublist.cons_cons | apply List.Sublist.cons) (u := (.bool (decide (300 < (manyF x.gate x.st))))) rfl (by rw [decide_eq_true hm.2]; simp) ?_
           refine f_skip 11 (by kernel_rfl) rfl rfl rfl (fun c a a' w h => by obtain ⟨_, v, hv, _⟩ := h; cases hv) (by refine hS.sub ?_; repeat first | exact List.Sublist.refl _ | exact List.nil_sublist _ | apply List.Sublist.cons_cons | apply List.Sublist.cons) (u := (.bool (decide (300 < (manyF x.gate x.st))))) rfl (by rw [decide_eq_true hm.2]; simp) ?_
           refine f_skip 12 (by kernel_rfl) rfl rfl rfl (fun c a a' w h => by obtain ⟨_, v, hv, _⟩ := h; cases hv) (by refine hS.sub ?_; repeat first | exact List.Sublist.refl _ | exact List.nil_sublist _ | apply List.Sublist.cons_cons | apply List.Sublist.cons) (u := (.bool (decide (300 < (manyF x.gate x.st))))) rfl (by rw [decide_eq_true hm.2]; simp) ?_
           refine f_skip 13 (by kernel_rfl) rfl rfl rfl (fun c a a' w h => by obtain ⟨_, v, hv, _⟩ := h; cases hv) (by refine hS.sub ?_; repeat first | exact List.Sublist.refl _ | exact List.nil_sublist _ | apply List.Sublist.cons_cons | apply List.Sublist.cons) (u := (.bool (decide (300 < (manyF x.gate x.st))))) rfl (by rw [decide_eq_true hm.2]; simp) ?_
           refine f_skip 14 (by kernel_rfl) rfl rfl rfl (fun c a a' w h => by obtain ⟨_, v, hv, _⟩ := h; cases hv) (by refine hS.sub ?_; repeat first | exact List.Sublist.refl _ | exact List.nil_sublist _ | apply List.Sublist.cons_cons | apply List.Sublist.cons) (u := (.bool (decide (300 < (manyF x.gate x.st))))) rfl (by rw [decide_eq_true hm.2]; simp) ?_
           refine f_skip 15 (by kernel_rfl) rfl rfl rfl (fun c a a' w h => by obtain ⟨_, v, hv, _⟩ := h; cases hv) (by refine hS.sub ?_; repeat first | exact List.Sublist.refl _ | exact List.nil_sublist _ | apply List.Sublist.cons_cons | apply List.Sublist.cons) (u := (.bool (decide (300 < (manyF x.gate x.st))))) rfl (by rw [decide_eq_true hm.2]; simp) ?_
           refine f_skip 16 (by kernel_rfl) rfl rfl rfl (fun c a a' w h => by obtain ⟨_, v, hv, _⟩ := h; cases hv) (by refine hS.sub ?_; repeat first | exact List.Sublist.refl _ | exact List.nil_sublist _ | apply List.Sublist.cons_cons | apply List.Sublist.cons) (u := (.bool (decide (300 < (manyF x.gate x.st))))) rfl (by rw [decide_eq_true hm.2]; simp) ?_
           refine f_step 17 (by kernel_rfl) rfl (fun c a a' w h => by obtain ⟨_, v, hv, _⟩ := h; cases hv) (by refine hS.sub ?_; repeat first | exact List.Sublist.refl _ | exact List.nil_sublist _ | apply List.Sublist.cons_cons | apply List.Sublist.cons) (fun w hS => (yPick (B := true) (rfl.trans (congrArg Value.bool (decide_eq_true hm.2))) (fun _ => rfl) (fun h => nomatch h))) ?_
           refine f_step 18 (by kernel_rfl) rfl (fun c a a' w h => by obtain ⟨_, v, hv, _⟩ := h; cases hv) (by refine hS.sub ?_; repeat first | exact List.Sublist.refl _ | exact List.nil_sublist _ | apply List.Sublist.cons_cons | apply List.Sublist.cons) (fun w hS => (yMove rfl)) ?_
           show wpA _ _ _ _ _ _ _ _ _ _
           refine a_step (i := 19) (is := []) (by kernel_rfl) ⟨?_, trivial⟩
           refine ⟨_, rfl, ?_⟩
           refine ungo rfl rfl rfl ?_
           refine scall Tryz.call6 .nil c_Awake ?_
           rintro _ w ⟨rfl, hE⟩; replace hS := hS.step hE; clear hE
           refine nil ?_
           refine ⟨fun _ => (by refine hS.sub ?_; repeat first | exact List.Sublist.refl _ | exact List.nil_sublist _ | apply List.Sublist.cons_cons | apply List.Sublist.cons), ?_⟩
           show wpA _ _ _ _ _ _ _ _ _ _
           refine f_step 20 (by kernel_rfl) rfl (fun c a a' w h => by obtain ⟨_, v, hv, _⟩ := h; cases hv) (by refine hS.sub ?_; repeat first | exact List.Sublist.refl _ | exact List.nil_sublist _ | apply List.Sublist.cons_cons | apply List.Sublist.cons) (fun w hS => (yPick (B := true) rfl (fun _ => rfl) (fun h => nomatch h))) ?_
           refine f_step 21 (by kernel_rfl) rfl (fun c a a' w h => by obtain ⟨_, v, hv, _⟩ := h; cases hv) (by refine hS.sub ?_; repeat first | exact List.Sublist.refl _ | exact List.nil_sublist _ | apply List.Sublist.cons_cons | apply List.Sublist.cons) (fun w hS => (yAsg rfl)) ?_
           refine a_end (by kernel_rfl) ?_
           show Code.wp _ _ _ _ _
           refine wp_ret ?_
           exact retV (res1 rfl rfl) hS.ext
          ·
           obtain ⟨r, hrm⟩ : ∃ r, (runO x.gate x.st (stL (fun t => !dnB ((runF x.tree (ownR x.spans 30)).getD pn []) (t : Int)) x.outer x.inner 30 0))[((manyF x.gate x.st) - 1).toNat]? = some r := ⟨_, List.getElem?_eq_getElem (show ((manyF x.gate x.st) - 1).toNat < _ by omega)⟩
           have hrp : r.pos = x.gate.travel := many_at hok hgs hfall (by simpa using hbo) (fun t ht => (stL_mem 30 0 t ht).2) (by omega) (by rw [← run_yes he0]; exact hrm)
           refine region_mix (fun w => StX [] w0 w (rowI (.slice (some ⟨gb, 0, none⟩) (runO x.gate x.st (stL (fun _ => true) x.outer x.inner 30 0)).length ca2) 31 3 (runO x.gate x.st (stL (fun _ => true) x.outer x.inner 30 0)).length ((runO x.gate x.st (stL (fun _ => true) x.outer x.inner 30 0)).flatMap gstC) :: rowI (.slice (some ⟨ga, 0, none⟩) (runO x.gate x.st (stL (fun t => !dnB ((runF x.tree (ownR x.spans 30)).getD pn []) (t : Int)) x.outer x.inner 30 0)).length ca) 31 3 (runO x.gate x.st (stL (fun t => !dnB ((runF x.tree (ownR x.spans 30)).getD pn []) (t : Int)) x.outer x.inner 30 0)).length ((runO x.gate x.st (stL (fun t => !dnB ((runF x.tree (ownR x.spans 30)).getD pn []) (t : Int)) x.outer x.inner 30 0)).flatMap gstC) :: blk b1 (pwrL x nv (.slice asp x.spans.length csp) uv qo qs) 33 :: ([] : List Bx.Item))) 22 mixed hS ?_
           clear hS; intro w hS
           refine f_step 0 (by kernel_rfl) rfl (fun c a a' w h => by obtain ⟨_, v, hv, _⟩ := h; cases hv) (by refine hS.sub ?_; repeat first | exact List.Sublist.refl _ | exact List.nil_sublist _ | apply List.Sublist.cons_cons | apply List.Sublist.cons) (fun w hS => (yMove h21)) ?_
           refine f_step 1 (by kernel_rfl) rfl (fun c a a' w h => by obtain ⟨_, v, hv, _⟩ := h; cases hv) (by refine hS.sub ?_; repeat first | exact List.Sublist.refl _ | exact List.nil_sublist _ | apply List.Sublist.cons_cons | apply List.Sublist.cons) (fun w hS => (yEql rfl rfl)) ?_
           refine f_step 2 (by kernel_rfl) rfl (fun c a a' w h => by obtain ⟨_, v, hv, _⟩ := h; cases hv) (by refine hS.sub ?_; repeat first | exact List.Sublist.refl _ | exact List.nil_sublist _ | apply List.Sublist.cons_cons | apply List.Sublist.cons) (fun w hS => (yMove rfl)) ?_
           refine f_go 3 (by kernel_rfl) rfl rfl rfl (fun c a a' w h => by obtain ⟨_, v, hv, _⟩ := h; cases hv) (by refine hS.sub ?_; repeat first | exact List.Sublist.refl _ | exact List.nil_sublist _ | apply List.Sublist.cons_cons | apply List.Sublist.cons) (congrArg Value.bool (decide_eq_false hm.1)) (fun w hS => (yMove h21)) ?_
           refine f_go 4 (by kernel_rfl) rfl rfl rfl (fun c a a' w h => by obtain ⟨_, v, hv, _⟩ := h; cases hv) (by refine hS.sub ?_; repeat first | exact List.Sublist.refl _ | exact List.nil_sublist _ | apply List.Sublist.cons_cons | apply List.Sublist.cons) (congrArg Value.bool (decide_eq_false hm.1)) (fun w hS => (yGtr rfl rfl)) ?_
           refine f_step 5 (by kernel_rfl) rfl (fun c a a' w h => by obtain ⟨_, v, hv, _⟩ := h; cases hv) (by refine hS.sub ?_; repeat first | exact List.Sublist.refl _ | exact List.nil_sublist _ | apply List.Sublist.cons_cons | apply List.Sublist.cons) (fun w hS => (yPick (B := false) (rfl.trans (congrArg Value.bool (decide_eq_false hm.1))) (fun h => nomatch h) (fun _ => rfl))) ?_
           refine f_step 6 (by kernel_rfl) rfl (fun c a a' w h => by obtain ⟨_, v, hv, _⟩ := h; cases hv) (by refine hS.sub ?_; repeat first | exact List.Sublist.refl _ | exact List.nil_sublist _ | apply List.Sublist.cons_cons | apply List.Sublist.cons) (fun w hS => (yMove rfl)) ?_
           refine f_go 7 (by kernel_rfl) rfl rfl rfl (fun c a a' w h => by obtain ⟨_, v, hv, _⟩ := h; cases hv) (by refine hS.sub ?_; repeat first | exact List.Sublist.refl _ | exact List.nil_sublist _ | apply List.Sublist.cons_cons | apply List.Sublist.cons) (congrArg Value.bool (decide_eq_false (by omega))) (fun w hS => (yMove h17)) ?_
           refine f_go 8 (by kernel_rfl) rfl rfl rfl (fun c a a' w h => by obtain ⟨_, v, hv, _⟩ := h; cases hv) (by refine hS.sub ?_; repeat first | exact List.Sublist.refl _ | exact List.nil_sublist _ | apply List.Sublist.cons_cons | apply List.Sublist.cons) (congrArg Value.bool (decide_eq_false (by omega))) (fun w hS => (yMove h21)) ?_
           refine f_go 9 (by kernel_rfl) rfl rfl rfl (fun c a a' w h => by obtain ⟨_, v, hv, _⟩ := h; cases hv) (by refine hS.sub ?_; repeat first | exact List.Sublist.refl _ | exact List.nil_sublist _ | apply List.Sublist.cons_cons | apply List.Sublist.cons) (congrArg Value.bool (decide_eq_false (by omega))) (fun w hS => (ySub rfl rfl ⟨by omega, by omega⟩)) ?_
           refine f_go 10 (by kernel_rfl) rfl rfl rfl (fun c a a' w h => by obtain ⟨_, v, hv, _⟩ := h; cases hv) (by refine hS.sub ?_; repeat first | exact List.Sublist.refl _ | exact List.nil_sublist _ | apply List.Sublist.cons_cons | apply List.Sublist.cons) (congrArg Value.bool (decide_eq_false (by omega))) (fun w hS => (yIxa rfl rfl rfl Tryz.runUnderlying46 Tryz.sizeOf31 (by omega) (by omega))) ?_
           refine f_go 11 (by kernel_rfl) rfl rfl rfl (fun c a a' w h => by obtain ⟨_, v, hv, _⟩ := h; cases hv) (by refine hS.sub ?_; repeat first | exact List.Sublist.refl _ | exact List.nil_sublist _ | apply List.Sublist.cons_cons | apply List.Sublist.cons) (congrArg Value.bool (decide_eq_false (by omega))) (fun w hS => (fa31_0 rfl)) ?_
           refine f_go 12 (by kernel_rfl) rfl rfl rfl (fun c a a' w h => by obtain ⟨_, v, hv, _⟩ := h; cases hv) (by refine hS.sub ?_; repeat first | exact List.Sublist.refl _ | exact List.nil_sublist _ | apply List.Sublist.cons_cons | apply List.Sublist.cons) (congrArg Value.bool (decide_eq_false (by omega))) (fun w hS => (yLd rfl Tryz.isAgg3 ((flat_cells (enc := gstC) gstC_len (row_at (hS.row (.slice (some ⟨ga, 0, none⟩) (runO x.gate x.st (stL (fun t => !dnB ((runF x.tree (ownR x.spans 30)).getD pn []) (t : Int)) x.outer x.inner 30 0)).length ca)) rfl (by omega)) hrm).at (j := 0) rfl))) ?_
           refine f_go 13 (by kernel_rfl) rfl rfl rfl (fun c a a' w h => by obtain ⟨_, v, hv, _⟩ := h; cases hv) (by refine hS.sub ?_; repeat first | exact List.Sublist.refl _ | exact List.nil_sublist _ | apply List.Sublist.cons_cons | apply List.Sublist.cons) (congrArg Value.bool (decide_eq_false (by omega))) (fun w hS => (fa33_4 h1)) ?_
           refine f_go 14 (by kernel_rfl) rfl rfl rfl (fun c a a' w h => by obtain ⟨_, v, hv, _⟩ := h; cases hv) (by refine hS.sub ?_; repeat first | exact List.Sublist.refl _ | exact List.nil_sublist _ | apply List.Sublist.cons_cons | apply List.Sublist.cons) (congrArg Value.bool (decide_eq_false (by omega))) (fun w hS => (fa29_2 rfl)) ?_
           refine f_go 15 (by kernel_rfl) rfl rfl rfl (fun c a a' w h => by obtain ⟨_, v, hv, _⟩ := h; cases hv) (by refine hS.sub ?_; repeat first | exact List.Sublist.refl _ | exact List.nil_sublist _ | apply List.Sublist.cons_cons | apply List.Sublist.cons) (congrArg Value.bool (decide_eq_false (by omega))) (fun w hS => (yLdB rfl Tryz.isAgg3 (hS.at _) rfl)) ?_
           refine f_go 16 (by kernel_rfl) rfl rfl rfl (fun c a a' w h => by obtain ⟨_, v, hv, _⟩ := h; cases hv) (by refine hS.sub ?_; repeat first | exact List.Sublist.refl _ | exact List.nil_sublist _ | apply List.Sublist.cons_cons | apply List.Sublist.cons) (congrArg Value.bool (decide_eq_false (by omega))) (fun w hS => (yEql rfl rfl)) ?_
           refine f_step 17 (by kernel_rfl) rfl (fun c a a' w h => by obtain ⟨_, v, hv, _⟩ := h; cases hv) (by refine hS.sub ?_; repeat first | exact List.Sublist.refl _ | exact List.nil_sublist _ | apply List.Sublist.cons_cons | apply List.Sublist.cons) (fun w hS => (yPick (B := false) (rfl.trans (congrArg Value.bool (decide_eq_false (by omega)))) (fun h => nomatch h) (fun _ => rfl.trans (congrArg Value.bool (decide_eq_true hrp))))) ?_
           refine f_step 18 (by kernel_rfl) rfl (fun c a a' w h => by obtain ⟨_, v, hv, _⟩ := h; cases hv) (by refine hS.sub ?_; repeat first | exact List.Sublist.refl _ | exact List.nil_sublist _ | apply List.Sublist.cons_cons | apply List.Sublist.cons) (fun w hS => (yMove rfl)) ?_
           show wpA _ _ _ _ _ _ _ _ _ _
           refine a_step (i := 19) (is := []) (by kernel_rfl) ⟨?_, trivial⟩
           refine ⟨_, rfl, ?_⟩
           refine ungo rfl rfl rfl ?_
           refine scall Tryz.call6 .nil c_Awake ?_
           rintro _ w ⟨rfl, hE⟩; replace hS := hS.step hE; clear hE
           refine nil ?_
           refine ⟨fun _ => (by refine hS.sub ?_; repeat first | exact List.Sublist.refl _ | exact List.nil_sublist _ | apply List.Sublist.cons_cons | apply List.Sublist.cons), ?_⟩
           show wpA _ _ _ _ _ _ _ _ _ _
           refine f_step 20 (by kernel_rfl) rfl (fun c a a' w h => by obtain ⟨_, v, hv, _⟩ := h; cases hv) (by refine hS.sub ?_; repeat first | exact List.Sublist.refl _ | exact List.nil_sublist _ | apply List.Sublist.cons_cons | apply List.Sublist.cons) (fun w hS => (yPick (B := true) rfl (fun _ => rfl) (fun h => nomatch h))) ?_
           refine f_step 21 (by kernel_rfl) rfl (fun c a a' w h => by obtain ⟨_, v, hv, _⟩ := h; cases hv) (by refine hS.sub ?_; repeat first | exact List.Sublist.refl _ | exact List.nil_sublist _ | apply List.Sublist.cons_cons | apply List.Sublist.cons) (fun w hS => (yAsg rfl)) ?_
           refine a_end (by kernel_rfl) ?_
           show Code.wp _ _ _ _ _
           refine wp_ret ?_
           exact retV (res1 rfl rfl) hS.ext
end Go.Proofs.YtbbpiebhnbhbiaaGreat
