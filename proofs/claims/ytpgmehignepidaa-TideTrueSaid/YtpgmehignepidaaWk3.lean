/- Walks, part Wk3. -/
import Derived.Test.YtpgmehignepidaaWk2
import Derived.Test.YtpgmehignepidaaP3
set_option linter.all false
namespace Go.Proofs.Ytpgmehignepidaa
open Go Bx
/-- barrage/tide.floor -/
theorem c_floor {a b : Int} {w0 : World} (hb : 0 < b) (ha : Bd a (-1000000000000) 1000000000000) : CV Try.prog 115 #[.int .i64 a, .int .i64 b] w0 (.int .i64 (a / b)) := by
  refine enter Try.func115 rfl Try.ntmps115 rfl ?_
  have hS := St.start w0
  refine seq ?_
  refine region ?_
  refine sv (yAsg rfl) ?_
  refine nil ?_
  show Code.wp _ _ _ _ _
  refine seq ?_
  refine seq ?_
  refine region ?_
  refine sv (yMove rfl) ?_
  refine sv (yMove rfl) ?_
  refine sv (yRem rfl rfl (by omega)) ?_
  refine sv (yLss rfl rfl) ?_
  refine nil ?_
  show Code.wp _ _ _ _ _
  refine cond rfl (fun c8 => ?_) (fun c8 => ?_)
  ·
    simp only [Bool.and_eq_true, Bool.or_eq_true, Bool.and_eq_false_iff, Bool.or_eq_false_iff, decide_eq_true_eq, decide_eq_false_iff_not, Bool.not_eq_true, Bool.not_eq_false, Bool.not_not, Bool.not_eq_eq_eq_not, Bool.not_true, Bool.not_false, Bool.false_eq_true, Bool.true_eq_false, ne_eq, Decidable.not_not, not_false_eq_true, not_true_eq_false] at c8
    refine seq ?_
    refine region ?_
    refine sv (yMove rfl) ?_
    refine sv (yMove rfl) ?_
    refine sv (yQuo rfl rfl (by omega) ⟨by omega, by omega⟩) ?_
    refine sv (ySub rfl rfl (by have := tdiv_bd hb ha; exact ⟨by omega, by omega⟩)) ?_
    refine sv (yAsg rfl) ?_
    refine nil ?_
    show Code.wp _ _ _ _ _
    refine wp_ret (thenR ?_)
    exact retV (res1 rfl (eqI (by rw [← tdiv_floor hb, if_pos c8]))) hS.ext
  ·
    simp only [Bool.and_eq_true, Bool.or_eq_true, Bool.and_eq_false_iff, Bool.or_eq_false_iff, decide_eq_true_eq, decide_eq_false_iff_not, Bool.not_eq_true, Bool.not_eq_false, Bool.not_not, Bool.not_eq_eq_eq_not, Bool.not_true, Bool.not_false, Bool.false_eq_true, Bool.true_eq_false, ne_eq, Decidable.not_not, not_false_eq_true, not_true_eq_false] at c8
    refine skip ?_
    show Code.wp _ _ _ _ _
    refine seq ?_
    refine region ?_
    refine sv (yMove rfl) ?_
    refine sv (yMove rfl) ?_
    refine sv (yQuo rfl rfl (by omega) ⟨by omega, by omega⟩) ?_
    refine sv (yAsg rfl) ?_
    refine nil ?_
    show Code.wp _ _ _ _ _
    refine wp_ret ?_
    exact retV (res1 rfl (eqI (by rw [← tdiv_floor hb, if_neg c8]))) hS.ext
/-- (*barrage/tide.span).add -/
theorem c_add {b o : Nat} {T : TypeId} {cs : List Value} {lo hi : Int} {x : Span} {w0 : World} (hb : w0.heap[b]? = some (.cells cs.toArray T (0, 0))) (h0 : cs[o]? = some (.int .i64 lo)) (h1 : cs[o + 1]? = some (.int .i64 hi)) (hlo : I64 (lo + x.lo)) (hhi : I64 (hi + x.hi)) : CE Try.prog 101 #[.pointer (some ⟨b, o, none⟩), .agg (spanC x).toArray] w0 (fun v w' => v = .tuple #[] ∧ Put b (.cells (splice cs o [.int .i64 (lo + x.lo), .int .i64 (hi + x.hi)]).toArray T (0, 0)) w0 w') := by
  refine enter Try.func101 rfl Try.ntmps101 rfl ?_
  have hS := StX.start1 (b := b) ⟨_, hb, rfl⟩
  have hlen : o + 2 ≤ cs.length := (List.getElem?_eq_some_iff.1 h1).1
  refine seq ?_
  refine region ?_
  refine sbox hS rfl rfl ?_; clear hS; intro b3 w hS
  refine nil ?_
  show Code.wp _ _ _ _ _
  refine seq ?_
  refine region_tail mixed 11 (by kernel_rfl) hS ?_
  refine qv (fun w hS => (yMove rfl)) ?_
  refine qv (fun w hS => (yNil rfl)) ?_
  refine qv (fun w hS => (fa127_0 rfl)) ?_
  refine qv (fun w hS => (fa38_0 rfl)) ?_
  refine qv (fun w hS => (yLdB rfl Try.isAgg3 (hS.at _) h0)) ?_
  refine qv (fun w hS => (fa38_0 rfl)) ?_
  refine qv (fun w hS => (yLdB rfl Try.isAgg3 (hS.at _) rfl)) ?_
  refine qv (fun w hS => (yAdd rfl rfl hlo)) ?_
  refine qv (fun w hS => (yNil rfl)) ?_
  refine qv (fun w hS => (fa127_0 rfl)) ?_
  refine qv (fun w hS => (fa38_0 rfl)) ?_
  clear hS; refine qtl (fun w hS => ?_)
  refine sst hS rfl rfl Try.sizeOf3 rfl rfl (by rw [Nat.ble_eq]; omega) rfl ?_; clear hS; intro w hS
  refine nil ?_
  show Code.wp _ _ _ _ _
  refine region_tail mixed 11 (by kernel_rfl) hS ?_
  refine qv (fun w hS => (yMove rfl)) ?_
  refine qv (fun w hS => (yNil rfl)) ?_
  refine qv (fun w hS => (fa127_0 rfl)) ?_
  refine qv (fun w hS => (fa38_1 rfl)) ?_
  refine qv (fun w hS => (yLdB rfl Try.isAgg3 (hS.at _) ((splice_get cs o _ hlen).trans h1))) ?_
  refine qv (fun w hS => (fa38_1 rfl)) ?_
  refine qv (fun w hS => (yLdB rfl Try.isAgg3 (hS.at _) rfl)) ?_
  refine qv (fun w hS => (yAdd rfl rfl hhi)) ?_
  refine qv (fun w hS => (yNil rfl)) ?_
  refine qv (fun w hS => (fa127_0 rfl)) ?_
  refine qv (fun w hS => (fa38_1 rfl)) ?_
  clear hS; refine qtl (fun w hS => ?_)
  refine sst hS rfl rfl Try.sizeOf3 rfl rfl (ble_splice (k := 1) rfl (by omega) (by omega)) rfl ?_; clear hS; intro w hS
  refine nil ?_
  show bodyPost _ _ _ _ _ _
  refine retN (results_none rfl _ _ _) ?_
  refine ⟨rfl, ?_⟩
  have h := hS.isPut
  have e := splice_two cs o (.int .i64 (lo + x.lo)) (.int .i64 (hi + x.hi)) hlen
  exact e ▸ h
set_option maxHeartbeats 1000000 in
/-- barrage/tide.parts closure 1 -/
theorem c_parts1 {bp bc : Nat} {Tp Tc : TypeId} {c : Const} {a : Option Addr} {cap : Nat} {pv : Int} {wb w0 : World} (hp : w0.heap[bp]? = some (.cells [.int .i64 pv].toArray Tp (0, 0))) (hc : w0.heap[bc]? = some (.cells [.string c.name, .slice a c.heights.length cap, .int .i64 c.off, .int .i64 c.step, .int .i64 c.den, .int .i64 c.slack].toArray Tc (0, 0))) (hne : bc ≠ bp) (hok : ConstOk c) (hpv : Bd pv 0 (c.den * c.heights.length - 1)) (he : Ext wb w0) (hbp : wb.heap.size ≤ bp) (hsl : Sl wb 1 RInt (.slice a c.heights.length cap) c.heights) : CE Try.prog 114 #[.pointer (some ⟨bp, 0, none⟩), .pointer (some ⟨bc, 0, none⟩)] w0 (fun v w' => v = .agg (spanC (partP c pv)).toArray ∧ Put bp (.cells [.int .i64 ((pv + c.step) % (c.den * c.heights.length))].toArray Tp (0, 0)) w0 w') := by
  refine enter Try.func114 rfl Try.ntmps114 rfl ?_
  have hS := StX.start1 (b := bp) ⟨_, hp, rfl⟩
  obtain ⟨a1, cap1, hae, hq1, hq2, hel⟩ := id hsl
  obtain ⟨rfl, rfl⟩ := slice_inj hae
  have hqb := quot_bd hok hpv
  have hcy := cyc_pos hok
  have hden := hok.den
  have hln := hok.len
  have hst := hok.step
  have hsk := hok.slack
  have hib := interp_bd hok hpv
  have hm1 : Bd ((pv / c.den + 1) % c.heights.length) 0 (c.heights.length - 1) := ⟨Int.emod_nonneg _ (by omega), by have := Int.emod_lt_of_pos (pv / c.den + 1) (show 0 < (c.heights.length : Int) by omega); omega⟩
  have hh0 := height_bd hok (pv / c.den).toNat
  have hh1 := height_bd hok ((pv / c.den + 1) % c.heights.length).toNat
  have hmb := mul_bd (B := 1000) hh0 ⟨show 0 ≤ c.den by omega, hden.2⟩ (by decide)
  have hmb2 := mul_bd (a := c.heights.getD ((pv / c.den + 1) % c.heights.length).toNat 0 - c.heights.getD (pv / c.den).toNat 0) (A := 20000) (B := 1000) ⟨by omega, by omega⟩ ⟨hqb.2.1, by omega⟩ (by decide)
  obtain ⟨b2, o2, cs2, ha2, hlen2, hcs2, hR2⟩ := hel (pv / c.den).toNat (by omega)
  obtain ⟨rfl, _⟩ := hR2
  rw [show c.heights[(pv / c.den).toNat] = c.heights.getD (pv / c.den).toNat 0 from getD_at _ _ (by omega)] at hcs2
  obtain ⟨b3, o3, cs3, ha3, hlen3, hcs3, hR3⟩ := hel ((pv / c.den + 1) % c.heights.length).toNat (by omega)
  obtain ⟨rfl, _⟩ := hR3
  rw [show c.heights[((pv / c.den + 1) % c.heights.length).toNat] = c.heights.getD ((pv / c.den + 1) % c.heights.length).toNat 0 from getD_at _ _ (by omega)] at hcs3
  refine seq ?_
  refine region ?_
  refine salloc hS Try.zeroValue38 rfl ?_; clear hS; intro b2 w hS
  refine nil ?_
  show Code.wp _ _ _ _ _
  refine seq ?_
  refine region_draw mixed (by kernel_rfl) hS ?_
  refine qv (fun w hS => (yLdB rfl Try.isAgg3 (hS.at _) rfl)) ?_
  refine qv (fun w hS => (fa46_4 rfl)) ?_
  refine qv (fun w hS => (yLdB rfl Try.isAgg3 (hS.extx.get hc (by simpa using hne)) rfl)) ?_
  refine qv (fun w hS => (yQuoP rfl rfl ⟨by omega, by omega⟩ (by omega))) ?_
  refine qv (fun w hS => (yLdB rfl Try.isAgg3 (hS.at _) rfl)) ?_
  refine qv (fun w hS => (fa46_4 rfl)) ?_
  refine qv (fun w hS => (yLdB rfl Try.isAgg3 (hS.extx.get hc (by simpa using hne)) rfl)) ?_
  refine qv (fun w hS => (yRemP rfl rfl (by omega) (by omega))) ?_
  refine qv (fun w hS => (yAsg rfl)) ?_
  refine qv (fun w hS => (yAsg rfl)) ?_
  clear hS; refine qnil (fun w hS => ?_)
  show Code.wp _ _ _ _ _
  refine seq ?_
  refine region_draw mixed (by kernel_rfl) hS ?_
  refine qv (fun w hS => (fa46_1 rfl)) ?_
  refine qv (fun w hS => (yLdB rfl Try.isAgg44 (hS.extx.get hc (by simpa using hne)) rfl)) ?_
  refine qv (fun w hS => (yMove rfl)) ?_
  refine qv (fun w hS => (yAdd rfl rfl ⟨by omega, by omega⟩)) ?_
  refine qv (fun w hS => (fa46_1 rfl)) ?_
  refine qv (fun w hS => (yLdB rfl Try.isAgg44 (hS.extx.get hc (by simpa using hne)) rfl)) ?_
  refine qv (fun w hS => (yLen rfl Try.underlying44)) ?_
  refine qv (fun w hS => (yRemP rfl rfl (by omega) (by omega))) ?_
  refine qv (fun w hS => (yIxa rfl ha3 rfl Try.runUnderlying44 Try.sizeOf3 (by omega) (by omega))) ?_
  refine qv (fun w hS => (yLd rfl Try.isAgg3 ((hcs3.ext (hS.extx.old he (by simpa using hbp))).one))) ?_
  refine qv (fun w hS => (yAsg rfl)) ?_
  clear hS; refine qnil (fun w hS => ?_)
  show Code.wp _ _ _ _ _
  refine seq ?_
  refine region_draw mixed (by kernel_rfl) hS ?_
  refine qv (fun w hS => (fa46_1 rfl)) ?_
  refine qv (fun w hS => (yLdB rfl Try.isAgg44 (hS.extx.get hc (by simpa using hne)) rfl)) ?_
  refine qv (fun w hS => (yMove rfl)) ?_
  refine qv (fun w hS => (yIxa rfl ha2 rfl Try.runUnderlying44 Try.sizeOf3 (by omega) (by omega))) ?_
  refine qv (fun w hS => (yLd rfl Try.isAgg3 ((hcs2.ext (hS.extx.old he (by simpa using hbp))).one))) ?_
  refine qv (fun w hS => (fa46_4 rfl)) ?_
  refine qv (fun w hS => (yLdB rfl Try.isAgg3 (hS.extx.get hc (by simpa using hne)) rfl)) ?_
  refine qv (fun w hS => (yMul rfl rfl ⟨by omega, by omega⟩)) ?_
  refine qv (fun w hS => (yMove rfl)) ?_
  refine qv (fun w hS => (fa46_1 rfl)) ?_
  refine qv (fun w hS => (yLdB rfl Try.isAgg44 (hS.extx.get hc (by simpa using hne)) rfl)) ?_
  refine qv (fun w hS => (yMove rfl)) ?_
  refine qv (fun w hS => (yIxa rfl ha2 rfl Try.runUnderlying44 Try.sizeOf3 (by omega) (by omega))) ?_
  refine qv (fun w hS => (yLd rfl Try.isAgg3 ((hcs2.ext (hS.extx.old he (by simpa using hbp))).one))) ?_
  refine qv (fun w hS => (ySub rfl rfl ⟨by omega, by omega⟩)) ?_
  refine qv (fun w hS => (yMove rfl)) ?_
  refine qv (fun w hS => (yMul rfl rfl ⟨by omega, by omega⟩)) ?_
  refine qv (fun w hS => (Y.to (yAdd rfl rfl ⟨by omega, by omega⟩) (congrArg _ (interp_eq c pv)))) ?_
  refine qv (fun w hS => (yAsg rfl)) ?_
  clear hS; refine qnil (fun w hS => ?_)
  show Code.wp _ _ _ _ _
  refine seq ?_
  refine region_tail mixed 7 (by kernel_rfl) hS ?_
  refine qv (fun w hS => (yLdB rfl Try.isAgg3 (hS.at _) rfl)) ?_
  refine qv (fun w hS => (fa46_3 rfl)) ?_
  refine qv (fun w hS => (yLdB rfl Try.isAgg3 (hS.extx.get hc (by simpa using hne)) rfl)) ?_
  refine qv (fun w hS => (yAdd rfl rfl ⟨by omega, by omega⟩)) ?_
  refine qv (fun w hS => (yLdBA rfl Try.isAgg46 Try.sizeOf46 (hS.extx.get hc (by simpa using hne)) rfl rfl)) ?_
  refine qcall Try.call61 (.cons rfl .nil) (fun w hS => (c_cycle ⟨by omega, by omega⟩)) ?_
  refine qv (fun w hS => (yRemP rfl rfl (by omega) (by omega))) ?_
  clear hS; refine qtl (fun w hS => ?_)
  refine sst hS rfl rfl Try.sizeOf3 rfl rfl rfl rfl ?_; clear hS; intro w hS
  refine nil ?_
  show Code.wp _ _ _ _ _
  refine seq ?_
  refine region_tail mixed 17 (by kernel_rfl) hS ?_
  refine qv (fun w hS => (yMove rfl)) ?_
  refine qv (fun w hS => (fa46_4 rfl)) ?_
  refine qv (fun w hS => (yLdB rfl Try.isAgg3 (hS.extx.get hc (by simpa using hne)) rfl)) ?_
  refine qcall Try.call115 (.cons rfl (.cons rfl .nil)) (fun w hS => (c_floor (by omega) ⟨by omega, by omega⟩)) ?_
  refine qv (fun w hS => (fa46_5 rfl)) ?_
  refine qv (fun w hS => (yLdB rfl Try.isAgg3 (hS.extx.get hc (by simpa using hne)) rfl)) ?_
  have hd1 := div_bd (A := 10000) (show 0 < c.den by omega) hib
  have hd2 := div_bd (a := -interp c pv) (b := c.den) (A := 10000) (by omega) ⟨by omega, by omega⟩
  refine qv (fun w hS => (ySub rfl rfl ⟨by omega, by omega⟩)) ?_
  refine qv (fun w hS => (yMove rfl)) ?_
  refine qv (fun w hS => (yNeg rfl ⟨by omega, by omega⟩)) ?_
  refine qv (fun w hS => (fa46_4 rfl)) ?_
  refine qv (fun w hS => (yLdB rfl Try.isAgg3 (hS.extx.get hc (by simpa using hne)) rfl)) ?_
  refine qcall Try.call115 (.cons rfl (.cons rfl .nil)) (fun w hS => (c_floor (by omega) ⟨by omega, by omega⟩)) ?_
  refine qv (fun w hS => (yNeg rfl ⟨by omega, by omega⟩)) ?_
  refine qv (fun w hS => (fa46_5 rfl)) ?_
  refine qv (fun w hS => (yLdB rfl Try.isAgg3 (hS.extx.get hc (by simpa using hne)) rfl)) ?_
  refine qv (fun w hS => (yAdd rfl rfl ⟨by omega, by omega⟩)) ?_
  refine qv (fun w hS => (yBuild Try.zeroValue38 rfl pl38 (.cons rfl rfl (.cons rfl rfl .nil)) rfl)) ?_
  clear hS; refine qtl (fun w hS => ?_)
  refine sst hS rfl rfl Try.sizeOf38 rfl rfl rfl rfl ?_; clear hS; intro w hS
  refine nil ?_
  show Code.wp _ _ _ _ _
  refine wp_ret ?_
  refine retQ (resV1 rfl (rc rfl Try.isAgg38 Try.sizeOf38 (hS.at _) rfl rfl)) ?_
  exact ⟨rfl, hS.isPut⟩
/-- barrage/tide.parts -/
theorem c_parts {c : Const} {a : Option Addr} {cap : Nat} {tick : Int} {w0 : World} (hok : ConstOk c) (ht : Bd tick 0 300000) : CE Try.prog 102 #[.agg [.string c.name, .slice a c.heights.length cap, .int .i64 c.off, .int .i64 c.step, .int .i64 c.den, .int .i64 c.slack].toArray, .int .i64 tick] w0 (fun v w' => ∃ bp bc, v = .func (.func 114) #[] [.pointer (some ⟨bp, 0, none⟩), .pointer (some ⟨bc, 0, none⟩)].toArray ∧ St w0 w' [blk bp [.int .i64 (pAt c tick)] 3, blk bc [.string c.name, .slice a c.heights.length cap, .int .i64 c.off, .int .i64 c.step, .int .i64 c.den, .int .i64 c.slack] 46]) := by
  refine enter Try.func102 rfl Try.ntmps102 rfl ?_
  have hS := St.start w0
  have hcy := cyc_pos hok
  have hst := hok.step
  have hof := hok.off
  have hmb := mul_bd (a := tick) (b := c.step) (A := 300000) (B := 100000) ⟨by omega, by omega⟩ ⟨by omega, by omega⟩ (by decide)
  rw [Int.mul_comm] at hmb
  have hnn : 0 ≤ c.step * tick := Int.mul_nonneg (by omega) ht.1
  refine seq ?_
  refine region ?_
  refine sbox hS rfl rfl ?_; clear hS; intro b2 w hS
  refine sv (yAsg rfl) ?_
  refine nil ?_
  show Code.wp _ _ _ _ _
  refine seq ?_
  refine region_any (C := (fun w => StX [] w0 w [blk b2 [.string c.name, .slice a c.heights.length cap, .int .i64 c.off, .int .i64 c.step, .int .i64 c.den, .int .i64 c.slack] 46])) mixed 8 11 (by kernel_rfl) (fun c a a' w h => by obtain ⟨_, v, hv, _⟩ := h; cases hv) hS (fun _ h => h) ?_
  clear hS; intro w hS
  refine hv (fun w hS => (fa46_2 rfl)) ?_
  refine hv (fun w hS => (yLdB rfl Try.isAgg3 (hS.at _) rfl)) ?_
  refine hv (fun w hS => (fa46_3 rfl)) ?_
  refine hv (fun w hS => (yLdB rfl Try.isAgg3 (hS.at _) rfl)) ?_
  refine hv (fun w hS => (yMove rfl)) ?_
  refine hv (fun w hS => (yMul rfl rfl ⟨by omega, by omega⟩)) ?_
  refine hv (fun w hS => (yAdd rfl rfl ⟨by omega, by omega⟩)) ?_
  refine hv (fun w hS => (yLdBA rfl Try.isAgg46 Try.sizeOf46 (hS.at _) rfl rfl)) ?_
  refine hnil ?_
  show wpA _ _ _ _ _ _ _ _ _ _
  refine a_step (i := 8) (is := [10]) (by kernel_rfl) ⟨?_, ?_, trivial⟩
  ·
    refine ⟨_, rfl, ?_⟩
    refine scall Try.call61 (.cons rfl .nil) (c_cycle ⟨by omega, by omega⟩) ?_
    rintro _ w ⟨rfl, hE⟩; replace hS := hS.step hE; clear hE
    refine nil ?_
    refine ⟨fun _ => hS.sub (List.Sublist.refl _), ?_⟩
    show wpA _ _ _ _ _ _ _ _ _ _
    refine a_step (i := 9) (is := [10]) (by kernel_rfl) ⟨?_, ?_, trivial⟩
    ·
      refine ⟨_, rfl, ?_⟩
      refine sv (yRemP rfl rfl (by omega) (by omega)) ?_
      refine nil ?_
      refine ⟨fun _ => hS.sub (List.Sublist.refl _), ?_⟩
      show wpA _ _ _ _ _ _ _ _ _ _
      refine a_step (i := 10) (is := []) (by kernel_rfl) ⟨?_, trivial⟩
      refine ⟨_, rfl, ?_⟩
      refine salloc hS Try.zeroValue3 rfl ?_; clear hS; intro b5 w hS
      refine nil ?_
      refine ⟨fun _ => hS.sub (.cons _ (List.Sublist.refl _)), ?_⟩
      show wpA _ _ _ _ _ _ _ _ _ _
      refine a_step (i := 11) (is := []) (by kernel_rfl) ⟨?_, trivial⟩
      refine ⟨_, rfl, ?_⟩
      refine sst hS rfl rfl Try.sizeOf3 rfl rfl rfl rfl ?_; clear hS; intro w hS
      refine nil ?_
      refine ⟨fun h => absurd h (by decide), ?_⟩
      show wpA _ _ _ _ _ _ _ _ _ _
      refine a_end (by kernel_rfl) ?_
      show Code.wp _ _ _ _ _
      refine seq ?_
      refine region ?_
      refine sv (yFn (.cons rfl (.cons rfl .nil))) ?_
      refine sv (yAsg rfl) ?_
      refine nil ?_
      show Code.wp _ _ _ _ _
      refine wp_ret ?_
      refine retQ (res1 rfl rfl) ?_
      exact ⟨b5, b2, rfl, hS⟩
    ·
      refine ⟨_, rfl, ?_⟩
      refine salloc hS Try.zeroValue3 rfl ?_; clear hS; intro b5 w hS
      refine nil ?_
      refine ⟨fun _ => hS.sub (.cons _ (List.Sublist.refl _)), ?_⟩
      show wpA _ _ _ _ _ _ _ _ _ _
      refine a_step (i := 9) (is := []) (by kernel_rfl) ⟨?_, trivial⟩
      refine ⟨_, rfl, ?_⟩
      refine sv (yRemP rfl rfl (by omega) (by omega)) ?_
      refine nil ?_
      refine ⟨fun _ => hS.sub (.cons _ (List.Sublist.refl _)), ?_⟩
      show wpA _ _ _ _ _ _ _ _ _ _
      refine a_step (i := 11) (is := []) (by kernel_rfl) ⟨?_, trivial⟩
      refine ⟨_, rfl, ?_⟩
      refine sst hS rfl rfl Try.sizeOf3 rfl rfl rfl rfl ?_; clear hS; intro w hS
      refine nil ?_
      refine ⟨fun h => absurd h (by decide), ?_⟩
      show wpA _ _ _ _ _ _ _ _ _ _
      refine a_end (by kernel_rfl) ?_
      show Code.wp _ _ _ _ _
      refine seq ?_
      refine region ?_
      refine sv (yFn (.cons rfl (.cons rfl .nil))) ?_
      refine sv (yAsg rfl) ?_
      refine nil ?_
      show Code.wp _ _ _ _ _
      refine wp_ret ?_
      refine retQ (res1 rfl rfl) ?_
      exact ⟨b5, b2, rfl, hS⟩
  ·
    refine ⟨_, rfl, ?_⟩
    refine salloc hS Try.zeroValue3 rfl ?_; clear hS; intro b5 w hS
    refine nil ?_
    refine ⟨fun _ => hS.sub (.cons _ (List.Sublist.refl _)), ?_⟩
    show wpA _ _ _ _ _ _ _ _ _ _
    refine a_step (i := 8) (is := []) (by kernel_rfl) ⟨?_, trivial⟩
    refine ⟨_, rfl, ?_⟩
    refine scall Try.call61 (.cons rfl .nil) (c_cycle ⟨by omega, by omega⟩) ?_
    rintro _ w ⟨rfl, hE⟩; replace hS := hS.step hE; clear hE
    refine nil ?_
    refine ⟨fun _ => hS.sub (.cons _ (List.Sublist.refl _)), ?_⟩
    show wpA _ _ _ _ _ _ _ _ _ _
    refine a_step (i := 9) (is := []) (by kernel_rfl) ⟨?_, trivial⟩
    refine ⟨_, rfl, ?_⟩
    refine sv (yRemP rfl rfl (by omega) (by omega)) ?_
    refine nil ?_
    refine ⟨fun _ => hS.sub (.cons _ (List.Sublist.refl _)), ?_⟩
    show wpA _ _ _ _ _ _ _ _ _ _
    refine a_step (i := 11) (is := []) (by kernel_rfl) ⟨?_, trivial⟩
    refine ⟨_, rfl, ?_⟩
    refine sst hS rfl rfl Try.sizeOf3 rfl rfl rfl rfl ?_; clear hS; intro w hS
    refine nil ?_
    refine ⟨fun h => absurd h (by decide), ?_⟩
    show wpA _ _ _ _ _ _ _ _ _ _
    refine a_end (by kernel_rfl) ?_
    show Code.wp _ _ _ _ _
    refine seq ?_
    refine region ?_
    refine sv (yFn (.cons rfl (.cons rfl .nil))) ?_
    refine sv (yAsg rfl) ?_
    refine nil ?_
    show Code.wp _ _ _ _ _
    refine wp_ret ?_
    refine retQ (res1 rfl rfl) ?_
    exact ⟨b5, b2, rfl, hS⟩
set_option maxHeartbeats 2000000 in
/-- barrage/tide.levels -/
theorem c_levels {t : Table} {cv : Value} {from_ : Int} {n : Nat} {w0 : World} (hsl : Sl w0 6 RConst cv t.consts) (hok : TableOk t) (hf : Bd from_ 0 200000) (hn : n ≤ 400) : CE Try.prog 71 #[.agg [.int .i64 t.mean, cv].toArray, .int .i64 from_, .int .i64 (n : Int)] w0 (fun v w' => St w0 w' [rowI v 38 2 n (((List.range n).map fun (i : Nat) => lvlT t (from_ + i)).flatMap spanC)]) := by
  obtain ⟨a, cap, rfl, hcap, hmx, hel⟩ := hsl
  have hmean := hok.mean
  have hlen12 := hok.len
  refine enter Try.func71 rfl Try.ntmps71 rfl ?_
  have hS := St.start w0
  refine seq ?_
  refine region ?_
  refine sbox hS rfl rfl ?_; clear hS; intro b3 w hS
  refine sv (yAsg rfl) ?_
  refine nil ?_
  show Code.wp _ _ _ _ _
  refine seq ?_
  refine region ?_
  refine sv (yMove rfl) ?_
  refine smake (bytes := 16) (zs := [.int .i64 0, .int .i64 0]) (m := n) hS rfl rfl Try.underlying136 ti127 rfl rfl rfl rfl rfl (by omega) (by omega) ?_; clear hS; intro b17 w hS
  rw [rep_flat] at hS
  refine sv (yAsg rfl) ?_
  refine nil ?_
  show Code.wp _ _ _ _ _
  refine seq ?_
  refine seq ?_
  refine region ?_
  refine sv (yMove rfl) ?_
  refine sv (yLen rfl Try.underlying136) ?_
  refine sv (yMove rfl) ?_
  refine nil ?_
  show Code.wp _ _ _ _ _
  refine block ?_
  refine loop (fun f w m => ∃ (k : Nat) (l : List Span), f 1 = .int .i64 from_ ∧ f 3 = .pointer (some ⟨b3, 0, none⟩) ∧ f 7 = .slice (some ⟨b17, 0, none⟩) n n ∧ f 19 = .int .i64 (n : Int) ∧ f 20 = .int .i64 (k : Int) ∧ St w0 w [blk b17 (l.flatMap spanC) 127, blk b3 [.int .i64 t.mean, .slice a t.consts.length cap] 24] ∧ (k ≤ n) ∧ (l.length = n) ∧ (∀ i, i < n → l[i]? = some (if i < k then ⟨t.mean, t.mean⟩ else ⟨0, 0⟩)) ∧ m = n - k) _ ⟨_, rfl, 0, _, rfl, rfl, rfl, rfl, rfl, hS, (Nat.zero_le _), (List.length_replicate), (fun i hi => by simp [hi]), rfl⟩ ?_
  clear hS
  rintro f w _ ⟨k, l, h1, h3, h7, h19, h20, hS, hk, hll, hrow, rfl⟩
  refine seq ?_
  refine region ?_
  refine sv (yLss h20 h19) ?_
  refine nil ?_
  show Code.wp _ _ _ _ _
  refine seq ?_
  refine cond rfl (fun c21 => ?_) (fun c21 => ?_)
  ·
    simp only [Bool.and_eq_true, Bool.or_eq_true, Bool.and_eq_false_iff, Bool.or_eq_false_iff, decide_eq_true_eq, decide_eq_false_iff_not, Bool.not_eq_true, Bool.not_eq_false, Bool.not_not, Bool.not_eq_eq_eq_not, Bool.not_true, Bool.not_false, Bool.false_eq_true, Bool.true_eq_false, ne_eq, Decidable.not_not, not_false_eq_true, not_true_eq_false] at c21
    refine skip ?_
    show Code.wp _ _ _ _ _
    refine seq ?_
    refine block ?_
    refine seq ?_
    refine region ?_
    refine sv (yMove h20) ?_
    refine sv (yAsg rfl) ?_
    refine nil ?_
    show Code.wp _ _ _ _ _
    refine region_tail mixed 8 (by kernel_rfl) hS ?_
    have hrow_k := hrow k (by omega)
    rw [if_neg (Nat.lt_irrefl k)] at hrow_k
    refine qv (fun w hS => (yMove h7)) ?_
    refine qv (fun w hS => (yMove rfl)) ?_
    refine qv (fun w hS => (yIx0 rfl rfl Try.runUnderlying136 Try.sizeOf127 (by omega))) ?_
    refine qv (fun w hS => (fa24_0 h3)) ?_
    refine qv (fun w hS => (yLdB rfl Try.isAgg3 (hS.at _) rfl)) ?_
    refine qv (fun w hS => (fa24_0 h3)) ?_
    refine qv (fun w hS => (yLdB rfl Try.isAgg3 (hS.at _) rfl)) ?_
    refine qv (fun w hS => (yBuild Try.zeroValue38 rfl pl38 (.cons rfl rfl (.cons rfl rfl .nil)) rfl)) ?_
    clear hS; refine qtl (fun w hS => ?_)
    refine scall Try.call101 (.cons rfl (.cons rfl .nil)) (c_add (o := k * 2) (lo := 0) (hi := 0) (x := ⟨t.mean, t.mean⟩) (blk0 (hS.at b17)) (flat2 spanC_len hrow_k 0 rfl) (flat2 spanC_len hrow_k 1 rfl) ⟨by simp only []; omega, by simp only []; omega⟩ ⟨by simp only []; omega, by simp only []; omega⟩) ?_; rintro _ w ⟨rfl, hput⟩; replace hS := hS.put hput; clear hput; simp only [Int.zero_add] at hS
    refine nil ?_
    show Code.wp _ _ _ _ _
    refine region ?_
    refine sv (yAdd h20 rfl ⟨by omega, by omega⟩) ?_
    refine sv (yMove rfl) ?_
    refine nil ?_
    exact ⟨_, _, rfl, ⟨k + 1, l.set k ⟨t.mean, t.mean⟩, h1, h3, h7, h19, rfl, (by rw [← splice_enc spanC_len l k _ (by omega)]; exact hS), (by omega), (by simpa using hll), (set_get (A := fun _ => ⟨t.mean, t.mean⟩) (B := fun _ => ⟨0, 0⟩) hll (by omega) rfl hrow), rfl⟩, by omega⟩
  ·
    simp only [Bool.and_eq_true, Bool.or_eq_true, Bool.and_eq_false_iff, Bool.or_eq_false_iff, decide_eq_true_eq, decide_eq_false_iff_not, Bool.not_eq_true, Bool.not_eq_false, Bool.not_not, Bool.not_eq_eq_eq_not, Bool.not_true, Bool.not_false, Bool.false_eq_true, Bool.true_eq_false, ne_eq, Decidable.not_not, not_false_eq_true, not_true_eq_false] at c21
    refine exit ?_
    show Code.wp _ _ _ _ _
    refine seq ?_
    refine seq ?_
    refine region ?_
    refine sv (fa24_1 h3) ?_
    refine sv (yLdB rfl Try.isAgg22 (hS.at _) rfl) ?_
    refine sv (yLen rfl Try.underlying22) ?_
    refine sv (yMove rfl) ?_
    refine nil ?_
    show Code.wp _ _ _ _ _
    refine block ?_
    obtain rfl : n = k := by omega
    refine loop (fun f w m => ∃ (k : Nat) (l : List Span), f 1 = .int .i64 from_ ∧ f 7 = .slice (some ⟨b17, 0, none⟩) n n ∧ f 34 = .slice a t.consts.length cap ∧ f 35 = .int .i64 (t.consts.length : Int) ∧ f 36 = .int .i64 (k : Int) ∧ St w0 w [blk b17 (l.flatMap spanC) 127] ∧ (k ≤ t.consts.length) ∧ (l.length = n) ∧ (∀ i, i < n → l[i]? = some (lvl t.mean (t.consts.take k) (from_ + i))) ∧ m = t.consts.length - k) _ ⟨_, rfl, 0, _, h1, h7, rfl, rfl, rfl, (hS.sub (.cons_cons _ (List.nil_sublist _))), (Nat.zero_le _), (hll), (fun i hi => by rw [hrow i hi, if_pos hi]; rfl), rfl⟩ ?_
    clear hS
    rintro f w _ ⟨k, l, h1, h7, h34, h35, h36, hS, hk, hll, hrow, rfl⟩
    refine seq ?_
    refine region ?_
    refine sv (yLss h36 h35) ?_
    refine nil ?_
    show Code.wp _ _ _ _ _
    refine seq ?_
    refine cond rfl (fun c37 => ?_) (fun c37 => ?_)
    ·
      simp only [Bool.and_eq_true, Bool.or_eq_true, Bool.and_eq_false_iff, Bool.or_eq_false_iff, decide_eq_true_eq, decide_eq_false_iff_not, Bool.not_eq_true, Bool.not_eq_false, Bool.not_not, Bool.not_eq_eq_eq_not, Bool.not_true, Bool.not_false, Bool.false_eq_true, Bool.true_eq_false, ne_eq, Decidable.not_not, not_false_eq_true, not_true_eq_false] at c37
      refine skip ?_
      show Code.wp _ _ _ _ _
      refine seq ?_
      refine block ?_
      refine seq ?_
      refine region ?_
      obtain ⟨c, hx, hd⟩ := drop_of (l := t.consts) (k := k) (by omega)
      have hcok : ConstOk c := hok.consts c (List.mem_of_getElem? hx)
      obtain ⟨b, o, cs, ha, hlen, hcs, hR⟩ := hel k (by omega)
      obtain rfl : c = t.consts[k] := (List.getElem?_eq_some_iff.1 hx).2.symm
      generalize t.consts[k] = c at hx hd hR hcok
      obtain ⟨hv, rfl, hn1, hsl1, _, _, _, _⟩ := hR
      obtain ⟨a1, cap1, rfl, hq1, hq2, hq3⟩ := id hsl1
      refine sv (yIxa h34 ha h36 Try.runUnderlying22 Try.sizeOf46 (by omega) (by omega)) ?_
      refine sv (yLdA rfl Try.isAgg46 Try.sizeOf46 (hcs.ext hS.ext) rfl) ?_
      refine salloc hS Try.zeroValue46 rfl ?_; clear hS; intro b10 w hS
      refine sst hS rfl rfl Try.sizeOf46 rfl rfl rfl rfl ?_; clear hS; intro w hS
      refine nil ?_
      show Code.wp _ _ _ _ _
      refine seq ?_
      refine region ?_
      refine sv (yLdBA rfl Try.isAgg46 Try.sizeOf46 (hS.at _) rfl rfl) ?_
      refine sv (yMove h1) ?_
      refine scall Try.call102 (.cons rfl (.cons rfl .nil)) (c_parts hcok ⟨by omega, by omega⟩) ?_
      rintro _ w ⟨bp, bc, rfl, hM⟩; replace hS := hS.call hM; clear hM
      refine sv (yAsg rfl) ?_
      refine nil ?_
      show Code.wp _ _ _ _ _
      refine seq ?_
      refine region ?_
      refine sv (yMove h7) ?_
      refine sv (yLen rfl Try.underlying136) ?_
      refine sv (yMove rfl) ?_
      refine nil ?_
      show Code.wp _ _ _ _ _
      refine block ?_
      refine loop (fun f w m => ∃ (j : Nat) (l : List Span), f 1 = .int .i64 from_ ∧ f 7 = .slice (some ⟨b17, 0, none⟩) n n ∧ f 11 = .func (.func 114) #[] [.pointer (some ⟨bp, 0, none⟩), .pointer (some ⟨bc, 0, none⟩)].toArray ∧ f 34 = .slice a t.consts.length cap ∧ f 35 = .int .i64 (t.consts.length : Int) ∧ f 36 = .int .i64 (k : Int) ∧ f 44 = .int .i64 (n : Int) ∧ f 45 = .int .i64 (j : Int) ∧ St w0 w [blk bp [.int .i64 (pAt c (from_ + j))] 3, blk bc [.string c.name, .slice a1 c.heights.length cap1, .int .i64 c.off, .int .i64 c.step, .int .i64 c.den, .int .i64 c.slack] 46, blk b17 (l.flatMap spanC) 127] ∧ (j ≤ n) ∧ (l.length = n) ∧ (∀ i, i < n → l[i]? = some (if i < j then lvl t.mean (t.consts.take (k + 1)) (from_ + i) else lvl t.mean (t.consts.take k) (from_ + i))) ∧ m = n - j) _ ⟨_, rfl, 0, _, h1, h7, rfl, h34, h35, h36, rfl, rfl, (by rw [show from_ + ((0 : Nat) : Int) = from_ from Int.add_zero _]; exact hS.sub (.cons_cons _ (.cons_cons _ (.cons _ (List.Sublist.refl _))))), (Nat.zero_le _), (hll), (fun i hi => by rw [hrow i hi]; simp), rfl⟩ ?_
      clear hS
      rintro f w _ ⟨j, l, h1, h7, h11, h34, h35, h36, h44, h45, hS, hj, hll, hrow, rfl⟩
      refine seq ?_
      refine region ?_
      refine sv (yLss h45 h44) ?_
      refine nil ?_
      show Code.wp _ _ _ _ _
      refine seq ?_
      refine cond rfl (fun c46 => ?_) (fun c46 => ?_)
      ·
        simp only [Bool.and_eq_true, Bool.or_eq_true, Bool.and_eq_false_iff, Bool.or_eq_false_iff, decide_eq_true_eq, decide_eq_false_iff_not, Bool.not_eq_true, Bool.not_eq_false, Bool.not_not, Bool.not_eq_eq_eq_not, Bool.not_true, Bool.not_false, Bool.false_eq_true, Bool.true_eq_false, ne_eq, Decidable.not_not, not_false_eq_true, not_true_eq_false] at c46
        refine skip ?_
        show Code.wp _ _ _ _ _
        refine seq ?_
        refine block ?_
        refine seq ?_
        refine region ?_
        refine sv (yMove h45) ?_
        refine sv (yAsg rfl) ?_
        refine nil ?_
        show Code.wp _ _ _ _ _
        refine region_any (C := (fun _ => True)) mixed 4 6 (by kernel_rfl) (fun c a a' w h => by obtain ⟨_, v, hv, _⟩ := h; cases hv) hS (fun _ _ => trivial) ?_
        clear hS; intro w hS
        have hrow_k := hrow j (by omega)
        rw [if_neg (Nat.lt_irrefl j)] at hrow_k
        have hlb := lvl_bd hmean (t.consts.take k) (from_ + j) (fun x hx => hok.consts x (List.mem_of_mem_take hx))
        have htl : (t.consts.take k).length ≤ 12 := by simp; omega
        have hpb := partP_bd hcok (pAt_bd hcok (from_ + j))
        refine hv (fun w hS => (yMove h7)) ?_
        refine hv (fun w hS => (yMove rfl)) ?_
        refine hv (fun w hS => (yIx0 rfl rfl Try.runUnderlying136 Try.sizeOf127 (by omega))) ?_
        refine hv (fun w hS => (yMove h11)) ?_
        refine hnil ?_
        show wpA _ _ _ _ _ _ _ _ _ _
        refine a_step (i := 4) (is := []) (by kernel_rfl) ⟨?_, trivial⟩
        refine ⟨_, rfl, ?_⟩
        refine scallf rfl Try.call114 .nil (c_parts1 (hS.at bp) (hS.at bc) (hS.ne2 (by simp [fps, cellI])) hcok (pAt_bd hcok _) hS.ext (hS.owned (by simp [fps, cellI])) hsl1) ?_; rintro _ w ⟨rfl, hput⟩; replace hS := hS.put hput; clear hput
        refine nil ?_
        refine ⟨fun _ => trivial, ?_⟩
        show wpA _ _ _ _ _ _ _ _ _ _
        refine a_step (i := 5) (is := []) (by kernel_rfl) ⟨?_, trivial⟩
        refine ⟨_, rfl, ?_⟩
        refine scall Try.call101 (.cons rfl (.cons rfl .nil)) (c_add (o := j * 2) (x := partP c (pAt c (from_ + j))) (blk0 (hS.at b17)) (flat2 spanC_len hrow_k 0 rfl) (flat2 spanC_len hrow_k 1 rfl) ⟨by omega, by omega⟩ ⟨by omega, by omega⟩) ?_; rintro _ w ⟨rfl, hput⟩; replace hS := hS.put hput; clear hput
        refine nil ?_
        refine ⟨fun _ => trivial, ?_⟩
        show wpA _ _ _ _ _ _ _ _ _ _
        refine a_end (by kernel_rfl) ?_
        show Code.wp _ _ _ _ _
        refine region ?_
        refine sv (yAdd h45 rfl ⟨by omega, by omega⟩) ?_
        refine sv (yMove rfl) ?_
        refine nil ?_
        exact ⟨_, _, rfl, ⟨j + 1, l.set j (addS (lvl t.mean (t.consts.take k) (from_ + j)) (partP c (pAt c (from_ + j)))), h1, h7, h11, h34, h35, h36, h44, rfl, (by rw [← splice_enc spanC_len l j _ (by omega), show from_ + ((j + 1 : Nat) : Int) = from_ + j + 1 by omega, ← pAt_succ]; exact hS), (by omega), (by simpa using hll), (set_get (A := fun (i : Nat) => lvl t.mean (t.consts.take (k + 1)) (from_ + i)) (B := fun (i : Nat) => lvl t.mean (t.consts.take k) (from_ + i)) hll (by omega) (lvl_take hx t.mean (from_ + j)).symm hrow), rfl⟩, by omega⟩
      ·
        simp only [Bool.and_eq_true, Bool.or_eq_true, Bool.and_eq_false_iff, Bool.or_eq_false_iff, decide_eq_true_eq, decide_eq_false_iff_not, Bool.not_eq_true, Bool.not_eq_false, Bool.not_not, Bool.not_eq_eq_eq_not, Bool.not_true, Bool.not_false, Bool.false_eq_true, Bool.true_eq_false, ne_eq, Decidable.not_not, not_false_eq_true, not_true_eq_false] at c46
        refine exit ?_
        show Code.wp _ _ _ _ _
        refine region ?_
        refine sv (yAdd h36 rfl ⟨by omega, by omega⟩) ?_
        refine sv (yMove rfl) ?_
        refine nil ?_
        obtain rfl : n = j := by omega
        exact ⟨_, _, rfl, ⟨k + 1, _, h1, h7, h34, h35, rfl, (hS.sub (.cons _ (.cons _ (.cons_cons _ (List.nil_sublist _))))), (by omega), (hll), (fun i hi => by rw [hrow i hi, if_pos hi]), rfl⟩, by omega⟩
    ·
      simp only [Bool.and_eq_true, Bool.or_eq_true, Bool.and_eq_false_iff, Bool.or_eq_false_iff, decide_eq_true_eq, decide_eq_false_iff_not, Bool.not_eq_true, Bool.not_eq_false, Bool.not_not, Bool.not_eq_eq_eq_not, Bool.not_true, Bool.not_false, Bool.false_eq_true, Bool.true_eq_false, ne_eq, Decidable.not_not, not_false_eq_true, not_true_eq_false] at c37
      refine exit ?_
      show Code.wp _ _ _ _ _
      refine seq ?_
      refine region ?_
      refine sv (yAsg rfl) ?_
      refine nil ?_
      show Code.wp _ _ _ _ _
      refine seq ?_
      refine seq ?_
      refine region ?_
      refine sv (yMove h7) ?_
      refine sv (yLen rfl Try.underlying136) ?_
      refine sv (yMove rfl) ?_
      refine nil ?_
      show Code.wp _ _ _ _ _
      refine block ?_
      obtain rfl : k = t.consts.length := by omega
      refine loop (fun f w m => ∃ (j : Nat) (v : Value), f 13 = v ∧ f 56 = .slice (some ⟨b17, 0, none⟩) n n ∧ f 57 = .int .i64 (n : Int) ∧ f 58 = .int .i64 (j : Int) ∧ St w0 w [rowI v 38 2 j (((List.range j).map fun (i : Nat) => lvlT t (from_ + i)).flatMap spanC), blk b17 (l.flatMap spanC) 127] ∧ (j ≤ n) ∧ (l.length = n) ∧ (∀ i, i < n → l[i]? = some (lvlT t (from_ + i))) ∧ m = n - j) _ ⟨_, rfl, 0, _, rfl, rfl, rfl, rfl, (hS.nilrow 38 2), (Nat.zero_le _), (hll), (fun i hi => by rw [hrow i hi, List.take_length]; rfl), rfl⟩ ?_
      clear hS
      rintro f w _ ⟨j, v, h13, h56, h57, h58, hS, hj, hll, hrow, rfl⟩
      refine seq ?_
      refine region ?_
      refine sv (yLss h58 h57) ?_
      refine nil ?_
      show Code.wp _ _ _ _ _
      refine seq ?_
      refine cond rfl (fun c59 => ?_) (fun c59 => ?_)
      ·
        simp only [Bool.and_eq_true, Bool.or_eq_true, Bool.and_eq_false_iff, Bool.or_eq_false_iff, decide_eq_true_eq, decide_eq_false_iff_not, Bool.not_eq_true, Bool.not_eq_false, Bool.not_not, Bool.not_eq_eq_eq_not, Bool.not_true, Bool.not_false, Bool.false_eq_true, Bool.true_eq_false, ne_eq, Decidable.not_not, not_false_eq_true, not_true_eq_false] at c59
        refine skip ?_
        show Code.wp _ _ _ _ _
        refine seq ?_
        refine block ?_
        refine seq ?_
        refine region ?_
        have hrow_j := hrow j (by omega)
        refine sv (yIx0 h56 h58 Try.runUnderlying136 Try.sizeOf127 (by omega)) ?_
        refine sv (yLdA rfl Try.isAgg127 Try.sizeOf127 (flat_cells0 spanC_len (blk_cells (hS.at b17)) hrow_j) rfl) ?_
        refine salloc hS Try.zeroValue127 rfl ?_; clear hS; intro b15 w hS
        refine sst hS rfl rfl Try.sizeOf127 rfl rfl rfl rfl ?_; clear hS; intro w hS
        refine nil ?_
        show Code.wp _ _ _ _ _
        refine region ?_
        refine sv (yMove h13) ?_
        refine sv (fa127_0 rfl) ?_
        refine sv (yLdBA rfl Try.isAgg38 Try.sizeOf38 (hS.at _) rfl rfl) ?_
        refine sbslice hS Try.underlying61 Try.sizeOf38 rfl Try.zeroValue38 rfl (.cons rfl rfl .nil) rfl ?_; clear hS; intro b65 w hS
        refine sapp (bytes := 16) (size := 2) (v := v) (m := 1) hS rfl rfl Try.underlying61 ti38 rfl rfl rfl rfl (by decide) (blk_cells (hS.at _)) rfl rfl (by omega) (by omega) ?_; clear hS; intro v66 w hS
        refine sv (yAsg rfl) ?_
        refine nil ?_
        show Code.wp _ _ _ _ _
        refine region ?_
        refine sv (yAdd h58 rfl ⟨by omega, by omega⟩) ?_
        refine sv (yMove rfl) ?_
        refine nil ?_
        exact ⟨_, _, rfl, ⟨j + 1, _, rfl, h56, h57, rfl, (by rw [List.range_succ, List.map_append, List.flatMap_append]; exact hS.sub (.cons _ (.cons _ (List.Sublist.refl _)))), (by omega), (hll), (hrow), rfl⟩, by omega⟩
      ·
        simp only [Bool.and_eq_true, Bool.or_eq_true, Bool.and_eq_false_iff, Bool.or_eq_false_iff, decide_eq_true_eq, decide_eq_false_iff_not, Bool.not_eq_true, Bool.not_eq_false, Bool.not_not, Bool.not_eq_eq_eq_not, Bool.not_true, Bool.not_false, Bool.false_eq_true, Bool.true_eq_false, ne_eq, Decidable.not_not, not_false_eq_true, not_true_eq_false] at c59
        refine exit ?_
        show Code.wp _ _ _ _ _
        refine seq ?_
        refine region ?_
        refine sv (yMove h13) ?_
        refine sv (yAsg rfl) ?_
        refine nil ?_
        show Code.wp _ _ _ _ _
        obtain rfl : n = j := by omega
        refine wp_ret ?_
        refine retQ (res1 rfl rfl) ?_
        show St w0 w [rowI v 38 2 n _]; exact hS.one _
/-- barrage/tide.ticks closure 1 -/
theorem c_ticks1 {h : Int} {w0 : World} : CV Try.prog 98 #[.int .i64 h] w0 (.bool (outB h 0 200000)) := by
  refine enter Try.func98 rfl Try.ntmps98 rfl ?_
  have hS := St.start w0
  refine seq ?_
  refine region ?_
  refine sv (yAsg rfl) ?_
  refine nil ?_
  show Code.wp _ _ _ _ _
  refine seq ?_
  refine region ?_
  refine sv (yMove rfl) ?_
  refine scall Try.call54 (.cons rfl (.cons rfl (.cons rfl .nil))) c_out ?_
  rintro _ w ⟨rfl, hE⟩; replace hS := hS.step hE; clear hE
  refine sv (yAsg rfl) ?_
  refine nil ?_
  show Code.wp _ _ _ _ _
  refine wp_ret ?_
  exact retV (res1 rfl rfl) hS.ext
/-- barrage/tide.ticks -/
theorem c_ticks {l : List Int} {v : Value} {w0 : World} (hsl : Sl w0 1 RInt v l) : CV Try.prog 68 #[v] w0 (.int .i64 (ticksE l)) := by
  refine enter Try.func68 rfl Try.ntmps68 rfl ?_
  have hS := St.start w0
  refine seq ?_
  refine region ?_
  refine sv (yAsg rfl) ?_
  refine nil ?_
  show Code.wp _ _ _ _ _
  refine seq ?_
  refine seq ?_
  refine region ?_
  refine sv (yMove rfl) ?_
  refine scall Try.call62 (.cons rfl (.cons rfl .nil)) (c_ContainsFuncInt (cl := []) (hsl.ext RInt.stays hS.ext) Try.call98 (fun x cs w _ _ _ => c_ticks1)) ?_
  rintro _ w ⟨rfl, hE⟩; replace hS := hS.step hE; clear hE
  refine nil ?_
  show Code.wp _ _ _ _ _
  refine cond rfl (fun c4 => ?_) (fun c4 => ?_)
  ·
    refine seq ?_
    refine region ?_
    refine sv (yAsg rfl) ?_
    refine nil ?_
    show Code.wp _ _ _ _ _
    refine wp_ret (thenR ?_)
    exact retV (res1 rfl (eqI (by unfold ticksE; rw [if_pos c4]))) hS.ext
  ·
    refine skip ?_
    show Code.wp _ _ _ _ _
    refine seq ?_
    refine region ?_
    refine sv (yAsg rfl) ?_
    refine nil ?_
    show Code.wp _ _ _ _ _
    refine wp_ret ?_
    exact retV (res1 rfl (eqI (by unfold ticksE; rw [if_neg (by rw [c4]; decide)]))) hS.ext
/-- barrage/tide.Level -/
theorem c_Level {t : Table} {cs : List Value} {tick : Int} {w0 : World} (ht : RTable w0 cs t) (hti : I64 tick) : CV Try.prog 28 #[.agg cs.toArray, .int .i64 tick] w0 (.tuple #[.agg (spanC (levelF t tick).1).toArray, .int .i64 (levelF t tick).2]) := by
  obtain ⟨cv, rfl, hmean, hsl⟩ := id ht
  refine enter Try.func28 rfl Try.ntmps28 rfl ?_
  have hS := St.start w0
  refine seq ?_
  refine region ?_
  refine sbox hS rfl rfl ?_; clear hS; intro b2 w hS
  refine salloc hS Try.zeroValue38 rfl ?_; clear hS; intro b4 w hS
  refine sv (yAsg rfl) ?_
  refine nil ?_
  show Code.wp _ _ _ _ _
  refine seq ?_
  refine region ?_
  refine sv (yLdBA rfl Try.isAgg24 Try.sizeOf24 (hS.at _) rfl rfl) ?_
  refine scall Try.call19 (.cons rfl .nil) (c_Check (ht.ext hS.ext)) ?_
  rintro _ w ⟨rfl, hE⟩; replace hS := hS.step hE; clear hE
  refine sv (yMove rfl) ?_
  refine sv (yExt rfl rfl) ?_
  refine sv (yExt rfl rfl) ?_
  refine sv (yAsg rfl) ?_
  refine sv (yAsg rfl) ?_
  refine nil ?_
  show Code.wp _ _ _ _ _
  refine seq ?_
  refine seq ?_
  refine region ?_
  refine sv (yMove rfl) ?_
  refine sv (yEql rfl rfl) ?_
  refine nil ?_
  show Code.wp _ _ _ _ _
  refine cond rfl (fun c14 => ?_) (fun c14 => ?_)
  ·
    simp only [Bool.and_eq_true, Bool.or_eq_true, Bool.and_eq_false_iff, Bool.or_eq_false_iff, decide_eq_true_eq, decide_eq_false_iff_not, Bool.not_eq_true, Bool.not_eq_false, Bool.not_not, Bool.not_eq_eq_eq_not, Bool.not_true, Bool.not_false, Bool.false_eq_true, Bool.true_eq_false, ne_eq, Decidable.not_not, not_false_eq_true, not_true_eq_false] at c14
    have hok := tableOk_of c14
    refine region ?_
    refine sv (yMove rfl) ?_
    refine sbslice hS Try.underlying44 Try.sizeOf3 rfl Try.zeroValue3 rfl (.cons rfl rfl .nil) rfl ?_; clear hS; intro b16 w hS
    refine scall Try.call68 (.cons rfl .nil) (c_ticks (l := [tick]) (ints_sl (b := b16) (l := [tick]) (hS.at b16) (by simpa using hti) (Nat.le_of_ble_eq_true rfl))) ?_
    rintro _ w ⟨rfl, hE⟩; replace hS := hS.step hE; clear hE
    refine sv (yAsg rfl) ?_
    refine nil ?_
    show Code.wp _ _ _ _ _
    refine seq ?_
    refine seq ?_
    refine region ?_
    refine sv (yMove rfl) ?_
    refine sv (yNeq rfl rfl) ?_
    refine nil ?_
    show Code.wp _ _ _ _ _
    refine cond rfl (fun c19 => ?_) (fun c19 => ?_)
    ·
      simp only [Bool.and_eq_true, Bool.or_eq_true, Bool.and_eq_false_iff, Bool.or_eq_false_iff, decide_eq_true_eq, decide_eq_false_iff_not, Bool.not_eq_true, Bool.not_eq_false, Bool.not_not, Bool.not_eq_eq_eq_not, Bool.not_true, Bool.not_false, Bool.false_eq_true, Bool.true_eq_false, ne_eq, Decidable.not_not, not_false_eq_true, not_true_eq_false] at c19
      refine seq ?_
      refine region ?_
      refine sv (yBuild Try.zeroValue38 rfl pl38 .nil rfl) ?_
      refine sv (yMove rfl) ?_
      refine sst hS rfl rfl Try.sizeOf38 rfl rfl rfl rfl ?_; clear hS; intro w hS
      refine sv (yAsg rfl) ?_
      refine nil ?_
      show Code.wp _ _ _ _ _
      have hfin : levelF t tick = (⟨0, 0⟩, ticksE [tick]) := by unfold levelF; rw [if_neg (fun h => h c14), if_pos c19]
      refine wp_ret (thenR ?_)
      exact retV (resV2 rfl (rc rfl Try.isAgg38 Try.sizeOf38 (hS.at _) (by rw [hfin]; rfl) rfl) (rt (eqI (by rw [hfin])))) hS.ext
    ·
      simp only [Bool.and_eq_true, Bool.or_eq_true, Bool.and_eq_false_iff, Bool.or_eq_false_iff, decide_eq_true_eq, decide_eq_false_iff_not, Bool.not_eq_true, Bool.not_eq_false, Bool.not_not, Bool.not_eq_eq_eq_not, Bool.not_true, Bool.not_false, Bool.false_eq_true, Bool.true_eq_false, ne_eq, Decidable.not_not, not_false_eq_true, not_true_eq_false] at c19
      have htk := ticks1 c19
      have hfin : levelF t tick = (lvlT t tick, 0) := by unfold levelF; rw [if_neg (fun h => h c14), if_neg (fun h => h c19)]
      refine skip ?_
      show Code.wp _ _ _ _ _
      refine seq ?_
      refine region ?_
      refine sv (yLdBA rfl Try.isAgg24 Try.sizeOf24 (hS.at _) rfl rfl) ?_
      refine sv (yMove rfl) ?_
      refine scall Try.call71 (.cons rfl (.cons rfl (.cons rfl .nil))) (c_levels (n := 1) (hsl.ext RConst.stays hS.ext) hok htk (by omega)) ?_
      rintro v w hM; replace hS := hS.call1 hM; clear hM; obtain ⟨g, cap, rfl, _, _, hcl⟩ := row_some (hS.row v) (by decide); rw [lvl1] at hcl
      refine sv (yIx rfl rfl Try.runUnderlying61 Try.sizeOf38 (by omega) (by omega)) ?_
      refine sv (yLdA rfl Try.isAgg38 Try.sizeOf38 hcl rfl) ?_
      refine sst hS rfl rfl Try.sizeOf38 rfl rfl rfl rfl ?_; clear hS; intro w hS
      refine sv (yAsg rfl) ?_
      refine nil ?_
      show Code.wp _ _ _ _ _
      refine wp_ret ?_
      exact retV (resV2 rfl (rc rfl Try.isAgg38 Try.sizeOf38 (hS.at _) (by rw [hfin]; rfl) rfl) (rt (eqI (by rw [hfin])))) hS.ext
  ·
    simp only [Bool.and_eq_true, Bool.or_eq_true, Bool.and_eq_false_iff, Bool.or_eq_false_iff, decide_eq_true_eq, decide_eq_false_iff_not, Bool.not_eq_true, Bool.not_eq_false, Bool.not_not, Bool.not_eq_eq_eq_not, Bool.not_true, Bool.not_false, Bool.false_eq_true, Bool.true_eq_false, ne_eq, Decidable.not_not, not_false_eq_true, not_true_eq_false] at c14
    refine skip ?_
    show Code.wp _ _ _ _ _
    refine seq ?_
    refine seq ?_
    refine region ?_
    refine sv (yMove rfl) ?_
    refine sv (yNeq rfl rfl) ?_
    refine nil ?_
    show Code.wp _ _ _ _ _
    refine cond rfl (fun c19 => ?_) (fun c19 => ?_)
    ·
      simp only [Bool.and_eq_true, Bool.or_eq_true, Bool.and_eq_false_iff, Bool.or_eq_false_iff, decide_eq_true_eq, decide_eq_false_iff_not, Bool.not_eq_true, Bool.not_eq_false, Bool.not_not, Bool.not_eq_eq_eq_not, Bool.not_true, Bool.not_false, Bool.false_eq_true, Bool.true_eq_false, ne_eq, Decidable.not_not, not_false_eq_true, not_true_eq_false] at c19
      refine seq ?_
      refine region ?_
      refine sv (yBuild Try.zeroValue38 rfl pl38 .nil rfl) ?_
      refine sv (yMove rfl) ?_
      refine sst hS rfl rfl Try.sizeOf38 rfl rfl rfl rfl ?_; clear hS; intro w hS
      refine sv (yAsg rfl) ?_
      refine nil ?_
      show Code.wp _ _ _ _ _
      have hfin : levelF t tick = (⟨0, 0⟩, (checkT t).2) := by unfold levelF; rw [if_pos c14]
      refine wp_ret (thenR ?_)
      exact retV (resV2 rfl (rc rfl Try.isAgg38 Try.sizeOf38 (hS.at _) (by rw [hfin]; rfl) rfl) (rt (eqI (by rw [hfin])))) hS.ext
    ·
      simp only [Bool.and_eq_true, Bool.or_eq_true, Bool.and_eq_false_iff, Bool.or_eq_false_iff, decide_eq_true_eq, decide_eq_false_iff_not, Bool.not_eq_true, Bool.not_eq_false, Bool.not_not, Bool.not_eq_eq_eq_not, Bool.not_true, Bool.not_false, Bool.false_eq_true, Bool.true_eq_false, ne_eq, Decidable.not_not, not_false_eq_true, not_true_eq_false] at c19
      exact absurd c19 c14
end Go.Proofs.Ytpgmehignepidaa
