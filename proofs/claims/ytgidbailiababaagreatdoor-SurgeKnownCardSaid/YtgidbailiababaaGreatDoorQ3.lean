/- Merged texts, part 3. -/
import Derived.Test.YtgidbailiababaaGreatDoorQ2
set_option linter.all false
/- part Sk3 -/
namespace Go.Proofs.YtgidbailiababaaGreatDoor
open Go Bx
theorem c_floor {a b : Int} {w0 : World} (hb : 0 < b) (ha : Bd a (-1000000000000) 1000000000000) : CV Tryz.prog 182 #[.int .i64 a, .int .i64 b] w0 (.int .i64 (a / b)) := by
 refine enter Tryz.func182 rfl Tryz.ntmps182 rfl ?_
 have hS := St.start w0
 refine seq <| region <| sv (yAsg rfl) <| nil <| cwQ <| seq <| seq <| region <| sv (yMove rfl) ?_
 refine sv (yMove rfl) <| sv (yRem rfl rfl (by omega)) <| sv (yLss rfl rfl) <| nil <| cwQ ?_
 refine cond rfl (fun c8 => ?_) (fun c8 => ?_)
 ·
  simp only [BS, ne_eq] at c8
  refine seq <| region <| sv (yMove rfl) <| sv (yMove rfl) <| sv (yQuo rfl rfl (by omega) ⟨by omega, by omega⟩) ?_
  refine sv (ySub rfl rfl (by have := tdiv_bd hb ha; exact ⟨by omega, by omega⟩)) ?_
  refine sv (yAsg rfl) <| nil <| cwQ ?_
  refine wp_ret (thenR ?_)
  exact retV (res1 rfl (eqI (by rw [← tdiv_floor hb, if_pos c8]))) hS.ext
 ·
  simp only [BS, ne_eq] at c8
  refine skip <| cwQ <| seq <| region <| sv (yMove rfl) <| sv (yMove rfl) <| sv (yQuo rfl rfl (by omega) ⟨by omega, by omega⟩) <| sv (yAsg rfl) <| nil ?_
  refine cwQ <| wp_ret ?_
  exact retV (res1 rfl (eqI (by rw [← tdiv_floor hb, if_neg c8]))) hS.ext
theorem c_add {b o : Nat} {T : TypeId} {cs : List Value} {lo hi : Int} {x : Span} {w0 : World} (hb : w0.heap[b]? = some (.cells cs.toArray T (0, 0))) (h0 : cs[o]? = some (.int .i64 lo)) (h1 : cs[o + 1]? = some (.int .i64 hi)) (hlo : I64 (lo + x.lo)) (hhi : I64 (hi + x.hi)) : CE Tryz.prog 154 #[.pointer (some ⟨b, o, none⟩), .agg (spanC x).toArray] w0 (fun v w' => v = .tuple #[] ∧ Put b (.cells (splice cs o [.int .i64 (lo + x.lo), .int .i64 (hi + x.hi)]).toArray T (0, 0)) w0 w') := by
 refine enter Tryz.func154 rfl Tryz.ntmps154 rfl ?_
 have hS := StX.start1 (b := b) ⟨_, hb, rfl⟩
 have hlen : o + 2 ≤ cs.length := (List.getElem?_eq_some_iff.1 h1).1
 refine seq <| region ?_
 refine sbox hS rfl rfl ?_; clear hS; intro b3 w hS
 refine nil <| cwQ <| seq <| region_tail mixed 11 (by kernel_rfl) hS <| qv (fun w hS => (yMove rfl)) <| qv (fun w hS => (yNil rfl)) <| qv (fun w hS => (fa200_0 rfl)) <| qv (fun w hS => (fa74_0 rfl)) <| qv (fun w hS => (yLdB rfl Tryz.isAgg3 (hS.at _) h0)) ?_
 refine qv (fun w hS => (fa74_0 rfl)) <| qv (fun w hS => (yLdB rfl Tryz.isAgg3 (hS.at _) rfl)) <| qv (fun w hS => (yAdd rfl rfl hlo)) <| qv (fun w hS => (yNil rfl)) <| qv (fun w hS => (fa200_0 rfl)) <| qv (fun w hS => (fa74_0 rfl)) ?_
 clear hS; refine qtl (fun w hS => ?_)
 refine sst hS rfl rfl Tryz.sizeOf3 rfl rfl (by rw [Nat.ble_eq]; omega) rfl ?_; clear hS; intro w hS
 refine nil <| cwQ <| region_tail mixed 11 (by kernel_rfl) hS <| qv (fun w hS => (yMove rfl)) <| qv (fun w hS => (yNil rfl)) <| qv (fun w hS => (fa200_0 rfl)) <| qv (fun w hS => (fa74_1 rfl)) <| qv (fun w hS => (yLdB rfl Tryz.isAgg3 (hS.at _) ((splice_get cs o _ hlen).trans h1))) <| qv (fun w hS => (fa74_1 rfl)) ?_
 refine qv (fun w hS => (yLdB rfl Tryz.isAgg3 (hS.at _) rfl)) <| qv (fun w hS => (yAdd rfl rfl hhi)) <| qv (fun w hS => (yNil rfl)) <| qv (fun w hS => (fa200_0 rfl)) <| qv (fun w hS => (fa74_1 rfl)) ?_
 clear hS; refine qtl (fun w hS => ?_)
 refine sst hS rfl rfl Tryz.sizeOf3 rfl rfl (ble_splice (k := 1) rfl (by omega) (by omega)) rfl ?_; clear hS; intro w hS
 refine nil ?_
 show bodyPost _ _ _ .normal _ _
 refine retN (results_none rfl _ _ _) ?_
 refine ⟨rfl, ?_⟩
 have h := hS.isPut
 have e := splice_two cs o (.int .i64 (lo + x.lo)) (.int .i64 (hi + x.hi)) hlen
 exact e ▸ h
set_option maxHeartbeats 1000000 in
theorem c_parts1 {bp bc : Nat} {Tp Tc : TypeId} {c : Const} {a : Option Addr} {cap : Nat} {pv : Int} {wb w0 : World} (hp : w0.heap[bp]? = some (.cells [.int .i64 pv].toArray Tp (0, 0))) (hc : w0.heap[bc]? = some (.cells [.string c.name, .slice a c.heights.length cap, .int .i64 c.off, .int .i64 c.step, .int .i64 c.den, .int .i64 c.slack].toArray Tc (0, 0))) (hne : bc ≠ bp) (hok : ConstOk c) (hpv : Bd pv 0 (c.den * c.heights.length - 1)) (he : Ext wb w0) (hbp : wb.heap.size ≤ bp) (hsl : Sl wb 1 RInt (.slice a c.heights.length cap) c.heights) : CE Tryz.prog 181 #[.pointer (some ⟨bp, 0, none⟩), .pointer (some ⟨bc, 0, none⟩)] w0 (fun v w' => v = .agg (spanC (partP c pv)).toArray ∧ Put bp (.cells [.int .i64 ((pv + c.step) % (c.den * c.heights.length))].toArray Tp (0, 0)) w0 w') := by
 refine enter Tryz.func181 rfl Tryz.ntmps181 rfl ?_
 have hS := StX.start1 (b := bp) ⟨_, hp, rfl⟩
 obtain ⟨a1, cap1, hae, hq1, hq2, hel⟩ := id hsl
 obtain ⟨rfl, rfl⟩ := slice_inj hae
 have hqb := quot_bd hok hpv
 have hcy := cyc_pos hok
 have hden := hok.den
 have hln := hok.len
 have hst := hok.step
 have hsk := hok.slack
 have hib := interp_bd hok hpv
 have hm1 : Bd ((pv / c.den + 1) % c.heights.length) 0 (c.heights.length - 1) := ⟨Int.emod_nonneg _ (by omega), by have := Int.emod_lt_of_pos (pv / c.den + 1) (show 0 < (c.heights.length : Int) by omega); omega⟩
 have hh0 := height_bd hok (pv / c.den).toNat
 have hh1 := height_bd hok ((pv / c.den + 1) % c.heights.length).toNat
 have hmb := mul_bd (B := 1000) hh0 ⟨show 0 ≤ c.den by omega, hden.2⟩ (by decide)
 have hmb2 := mul_bd (a := c.heights.getD ((pv / c.den + 1) % c.heights.length).toNat 0 - c.heights.getD (pv / c.den).toNat 0) (A := 20000) (B := 1000) ⟨by omega, by omega⟩ ⟨hqb.2.1, by omega⟩ (by decide)
 obtain ⟨b2, o2, cs2, ha2, hlen2, hcs2, hR2⟩ := hel (pv / c.den).toNat (by omega)
 obtain ⟨rfl, _⟩ := hR2
 rw [show c.heights[(pv / c.den).toNat] = c.heights.getD (pv / c.den).toNat 0 from getD_at _ _ (by omega)] at hcs2
 obtain ⟨b3, o3, cs3, ha3, hlen3, hcs3, hR3⟩ := hel ((pv / c.den + 1) % c.heights.length).toNat (by omega)
 obtain ⟨rfl, _⟩ := hR3
 rw [show c.heights[((pv / c.den + 1) % c.heights.length).toNat] = c.heights.getD ((pv / c.den + 1) % c.heights.length).toNat 0 from getD_at _ _ (by omega)] at hcs3
 refine seq <| region ?_
 refine salloc hS Tryz.zeroValue74 rfl ?_; clear hS; intro b2 w hS
 refine nil <| cwQ <| seq <| region_draw mixed (by kernel_rfl) hS <| qv (fun w hS => (yLdB rfl Tryz.isAgg3 (hS.at _) rfl)) <| qv (fun w hS => (fa196_4 rfl)) <| qv (fun w hS => (yLdB rfl Tryz.isAgg3 (hS.extx.get hc (by simpa using hne)) rfl)) <| qv (fun w hS => (yQuoP rfl rfl ⟨by omega, by omega⟩ (by omega))) <| qv (fun w hS => (yLdB rfl Tryz.isAgg3 (hS.at _) rfl)) ?_
 refine qv (fun w hS => (fa196_4 rfl)) <| qv (fun w hS => (yLdB rfl Tryz.isAgg3 (hS.extx.get hc (by simpa using hne)) rfl)) <| qv (fun w hS => (yRemP rfl rfl (by omega) (by omega))) <| qv (fun w hS => (yAsg rfl)) <| qv (fun w hS => (yAsg rfl)) ?_
 clear hS; refine qnil (fun w hS => ?_)
 refine cwQ <| seq <| region_draw mixed (by kernel_rfl) hS <| qv (fun w hS => (fa196_1 rfl)) <| qv (fun w hS => (yLdB rfl Tryz.isAgg39 (hS.extx.get hc (by simpa using hne)) rfl)) <| qv (fun w hS => (yMove rfl)) <| qv (fun w hS => (yAdd rfl rfl ⟨by omega, by omega⟩)) <| qv (fun w hS => (fa196_1 rfl)) <| qv (fun w hS => (yLdB rfl Tryz.isAgg39 (hS.extx.get hc (by simpa using hne)) rfl)) ?_
 refine qv (fun w hS => (yLen rfl Tryz.underlying39)) <| qv (fun w hS => (yRemP rfl rfl (by omega) (by omega))) <| qv (fun w hS => (yIxa rfl ha3 rfl Tryz.runUnderlying39 Tryz.sizeOf3 (by omega) (by omega))) <| qv (fun w hS => (yLd rfl Tryz.isAgg3 ((hcs3.ext (hS.extx.old he (by simpa using hbp))).one))) <| qv (fun w hS => (yAsg rfl)) ?_
 clear hS; refine qnil (fun w hS => ?_)
 refine cwQ <| seq <| region_draw mixed (by kernel_rfl) hS <| qv (fun w hS => (fa196_1 rfl)) <| qv (fun w hS => (yLdB rfl Tryz.isAgg39 (hS.extx.get hc (by simpa using hne)) rfl)) <| qv (fun w hS => (yMove rfl)) <| qv (fun w hS => (yIxa rfl ha2 rfl Tryz.runUnderlying39 Tryz.sizeOf3 (by omega) (by omega))) <| qv (fun w hS => (yLd rfl Tryz.isAgg3 ((hcs2.ext (hS.extx.old he (by simpa using hbp))).one))) <| qv (fun w hS => (fa196_4 rfl)) ?_
 refine qv (fun w hS => (yLdB rfl Tryz.isAgg3 (hS.extx.get hc (by simpa using hne)) rfl)) <| qv (fun w hS => (yMul rfl rfl ⟨by omega, by omega⟩)) <| qv (fun w hS => (yMove rfl)) <| qv (fun w hS => (fa196_1 rfl)) <| qv (fun w hS => (yLdB rfl Tryz.isAgg39 (hS.extx.get hc (by simpa using hne)) rfl)) <| qv (fun w hS => (yMove rfl)) <| qv (fun w hS => (yIxa rfl ha2 rfl Tryz.runUnderlying39 Tryz.sizeOf3 (by omega) (by omega))) <| qv (fun w hS => (yLd rfl Tryz.isAgg3 ((hcs2.ext (hS.extx.old he (by simpa using hbp))).one))) <| qv (fun w hS => (ySub rfl rfl ⟨by omega, by omega⟩)) ?_
 refine qv (fun w hS => (yMove rfl)) <| qv (fun w hS => (yMul rfl rfl ⟨by omega, by omega⟩)) <| qv (fun w hS => (Y.to (yAdd rfl rfl ⟨by omega, by omega⟩) (congrArg _ (interp_eq c pv)))) <| qv (fun w hS => (yAsg rfl)) ?_
 clear hS; refine qnil (fun w hS => ?_)
 refine cwQ <| seq <| region_tail mixed 7 (by kernel_rfl) hS <| qv (fun w hS => (yLdB rfl Tryz.isAgg3 (hS.at _) rfl)) <| qv (fun w hS => (fa196_3 rfl)) <| qv (fun w hS => (yLdB rfl Tryz.isAgg3 (hS.extx.get hc (by simpa using hne)) rfl)) <| qv (fun w hS => (yAdd rfl rfl ⟨by omega, by omega⟩)) <| qv (fun w hS => (yLdBA rfl Tryz.isAgg196 Tryz.sizeOf196 (hS.extx.get hc (by simpa using hne)) rfl rfl)) <| qcall Tryz.call153 (.cons rfl .nil) (fun w hS => (c_cycle ⟨by omega, by omega⟩)) ?_
 refine qv (fun w hS => (yRemP rfl rfl (by omega) (by omega))) ?_
 clear hS; refine qtl (fun w hS => ?_)
 refine sst hS rfl rfl Tryz.sizeOf3 rfl rfl rfl rfl ?_; clear hS; intro w hS
 refine nil <| cwQ <| seq <| region_tail mixed 17 (by kernel_rfl) hS <| qv (fun w hS => (yMove rfl)) <| qv (fun w hS => (fa196_4 rfl)) <| qv (fun w hS => (yLdB rfl Tryz.isAgg3 (hS.extx.get hc (by simpa using hne)) rfl)) <| qcall Tryz.call182 (.cons rfl (.cons rfl .nil)) (fun w hS => (c_floor (by omega) ⟨by omega, by omega⟩)) <| qv (fun w hS => (fa196_5 rfl)) ?_
 refine qv (fun w hS => (yLdB rfl Tryz.isAgg3 (hS.extx.get hc (by simpa using hne)) rfl)) ?_
 have hd1 := div_bd (A := 10000) (show 0 < c.den by omega) hib
 have hd2 := div_bd (a := -interp c pv) (b := c.den) (A := 10000) (by omega) ⟨by omega, by omega⟩
 refine qv (fun w hS => (ySub rfl rfl ⟨by omega, by omega⟩)) <| qv (fun w hS => (yMove rfl)) <| qv (fun w hS => (yNeg rfl ⟨by omega, by omega⟩)) <| qv (fun w hS => (fa196_4 rfl)) <| qv (fun w hS => (yLdB rfl Tryz.isAgg3 (hS.extx.get hc (by simpa using hne)) rfl)) <| qcall Tryz.call182 (.cons rfl (.cons rfl .nil)) (fun w hS => (c_floor (by omega) ⟨by omega, by omega⟩)) <| qv (fun w hS => (yNeg rfl ⟨by omega, by omega⟩)) <| qv (fun w hS => (fa196_5 rfl)) <| qv (fun w hS => (yLdB rfl Tryz.isAgg3 (hS.extx.get hc (by simpa using hne)) rfl)) ?_
 refine qv (fun w hS => (yAdd rfl rfl ⟨by omega, by omega⟩)) <| qv (fun w hS => (yBuild Tryz.zeroValue74 rfl pl74 (.cons rfl rfl (.cons rfl rfl .nil)) rfl)) ?_
 clear hS; refine qtl (fun w hS => ?_)
 refine sst hS rfl rfl Tryz.sizeOf74 rfl rfl rfl rfl ?_; clear hS; intro w hS
 refine nil <| cwQ <| wp_ret <| retQ (resV1 rfl (rc rfl Tryz.isAgg74 Tryz.sizeOf74 (hS.at _) rfl rfl)) ?_
 exact ⟨rfl, hS.isPut⟩
theorem c_parts {c : Const} {a : Option Addr} {cap : Nat} {tick : Int} {w0 : World} (hok : ConstOk c) (ht : Bd tick 0 300000) : CE Tryz.prog 155 #[.agg [.string c.name, .slice a c.heights.length cap, .int .i64 c.off, .int .i64 c.step, .int .i64 c.den, .int .i64 c.slack].toArray, .int .i64 tick] w0 (fun v w' => ∃ bp bc, v = .func (.func 181) #[] [.pointer (some ⟨bp, 0, none⟩), .pointer (some ⟨bc, 0, none⟩)].toArray ∧ St w0 w' [blk bp [.int .i64 (pAt c tick)] 3, blk bc [.string c.name, .slice a c.heights.length cap, .int .i64 c.off, .int .i64 c.step, .int .i64 c.den, .int .i64 c.slack] 196]) := by
 refine enter Tryz.func155 rfl Tryz.ntmps155 rfl ?_
 have hS := St.start w0
 have hcy := cyc_pos hok
 have hst := hok.step
 have hof := hok.off
 have hmb := mul_bd (a := tick) (b := c.step) (A := 300000) (B := 100000) ⟨by omega, by omega⟩ ⟨by omega, by omega⟩ (by decide)
 rw [Int.mul_comm] at hmb
 have hnn : 0 ≤ c.step * tick := Int.mul_nonneg (by omega) ht.1
 refine seq <| region ?_
 refine sbox hS rfl rfl ?_; clear hS; intro b2 w hS
 refine sv (yAsg rfl) <| nil <| cwQ <| seq ?_
 refine region_any (C := (fun w => StX [] w0 w [blk b2 [.string c.name, .slice a c.heights.length cap, .int .i64 c.off, .int .i64 c.step, .int .i64 c.den, .int .i64 c.slack] 196])) mixed 8 11 (by kernel_rfl) (fun c a a' w h => by obtain ⟨_, v, hv, _⟩ := h; cases hv) hS (fun _ h => h) ?_
 clear hS; intro w hS
 refine hv (fun w hS => (fa196_2 rfl)) <| hv (fun w hS => (yLdB rfl Tryz.isAgg3 (hS.at _) rfl)) <| hv (fun w hS => (fa196_3 rfl)) <| hv (fun w hS => (yLdB rfl Tryz.isAgg3 (hS.at _) rfl)) <| hv (fun w hS => (yMove rfl)) <| hv (fun w hS => (yMul rfl rfl ⟨by omega, by omega⟩)) <| hv (fun w hS => (yAdd rfl rfl ⟨by omega, by omega⟩)) <| hv (fun w hS => (yLdBA rfl Tryz.isAgg196 Tryz.sizeOf196 (hS.at _) rfl rfl)) <| hnil ?_
 refine awQ ?_
 refine a_step (i := 8) (is := [10]) (by kernel_rfl) ⟨?_, ?_, trivial⟩
 ·
  refine ⟨_, rfl, ?_⟩
  refine scall Tryz.call153 (.cons rfl .nil) (c_cycle ⟨by omega, by omega⟩) ?_
  rintro _ w ⟨rfl, hE⟩; replace hS := hS.step hE; clear hE
  refine nil ?_
  refine ⟨fun _ => hS.sub lrQ, ?_⟩
  refine awQ ?_
  refine a_step (i := 9) (is := [10]) (by kernel_rfl) ⟨?_, ?_, trivial⟩
  ·
   refine ⟨_, rfl, ?_⟩
   refine sv (yRemP rfl rfl (by omega) (by omega)) <| nil ?_
   refine ⟨fun _ => hS.sub lrQ, ?_⟩
   refine awQ <| a1Q 10 (by kernel_rfl) rfl ?_
   refine salloc hS Tryz.zeroValue3 rfl ?_; clear hS; intro b5 w hS
   refine nil ?_
   refine ⟨fun _ => hS.sub (.cons _ lrQ), ?_⟩
   refine awQ <| a1Q 11 (by kernel_rfl) rfl ?_
   refine sst hS rfl rfl Tryz.sizeOf3 rfl rfl rfl rfl ?_; clear hS; intro w hS
   refine nil ?_
   refine ⟨fun h => absurd h (by decide), ?_⟩
   refine awQ <| a_end (by kernel_rfl) <| cwQ <| seq <| region <| sv (yFn (.cons rfl (.cons rfl .nil))) <| sv (yAsg rfl) <| nil <| cwQ ?_
   refine wp_ret <| retQ (res1 rfl rfl) ?_
   exact ⟨b5, b2, rfl, hS⟩
  ·
   refine ⟨_, rfl, ?_⟩
   refine salloc hS Tryz.zeroValue3 rfl ?_; clear hS; intro b5 w hS
   refine nil ?_
   refine ⟨fun _ => hS.sub (.cons _ lrQ), ?_⟩
   refine awQ <| a1Q 9 (by kernel_rfl) rfl <| sv (yRemP rfl rfl (by omega) (by omega)) <| nil ?_
   refine ⟨fun _ => hS.sub (.cons _ lrQ), ?_⟩
   refine awQ <| a1Q 11 (by kernel_rfl) rfl ?_
   refine sst hS rfl rfl Tryz.sizeOf3 rfl rfl rfl rfl ?_; clear hS; intro w hS
   refine nil ?_
   refine ⟨fun h => absurd h (by decide), ?_⟩
   refine awQ <| a_end (by kernel_rfl) <| cwQ <| seq <| region <| sv (yFn (.cons rfl (.cons rfl .nil))) <| sv (yAsg rfl) <| nil <| cwQ ?_
   refine wp_ret <| retQ (res1 rfl rfl) ?_
   exact ⟨b5, b2, rfl, hS⟩
 ·
  refine ⟨_, rfl, ?_⟩
  refine salloc hS Tryz.zeroValue3 rfl ?_; clear hS; intro b5 w hS
  refine nil ?_
  refine ⟨fun _ => hS.sub (.cons _ lrQ), ?_⟩
  refine awQ <| a1Q 8 (by kernel_rfl) rfl ?_
  refine scall Tryz.call153 (.cons rfl .nil) (c_cycle ⟨by omega, by omega⟩) ?_
  rintro _ w ⟨rfl, hE⟩; replace hS := hS.step hE; clear hE
  refine nil ?_
  refine ⟨fun _ => hS.sub (.cons _ lrQ), ?_⟩
  refine awQ <| a1Q 9 (by kernel_rfl) rfl <| sv (yRemP rfl rfl (by omega) (by omega)) <| nil ?_
  refine ⟨fun _ => hS.sub (.cons _ lrQ), ?_⟩
  refine awQ <| a1Q 11 (by kernel_rfl) rfl ?_
  refine sst hS rfl rfl Tryz.sizeOf3 rfl rfl rfl rfl ?_; clear hS; intro w hS
  refine nil ?_
  refine ⟨fun h => absurd h (by decide), ?_⟩
  refine awQ <| a_end (by kernel_rfl) <| cwQ <| seq <| region <| sv (yFn (.cons rfl (.cons rfl .nil))) <| sv (yAsg rfl) <| nil <| cwQ ?_
  refine wp_ret <| retQ (res1 rfl rfl) ?_
  exact ⟨b5, b2, rfl, hS⟩
set_option maxHeartbeats 2000000 in
theorem c_levels {t : Table} {cv : Value} {from_ : Int} {n : Nat} {w0 : World} (hsl : Sl w0 6 RConst cv t.consts) (hok : TableOk t) (hf : Bd from_ 0 200000) (hn : n ≤ 400) : CE Tryz.prog 100 #[.agg [.int .i64 t.mean, cv].toArray, .int .i64 from_, .int .i64 (n : Int)] w0 (fun v w' => St w0 w' [rowI v 74 2 n (((List.range n).map fun (i : Nat) => lvlT t (from_ + i)).flatMap spanC)]) := by
 obtain ⟨a, cap, rfl, hcap, hmx, hel⟩ := hsl
 have hmean := hok.mean
 have hlen12 := hok.len
 refine enter Tryz.func100 rfl Tryz.ntmps100 rfl ?_
 have hS := St.start w0
 refine seq <| region ?_
 refine sbox hS rfl rfl ?_; clear hS; intro b3 w hS
 refine sv (yAsg rfl) <| nil <| cwQ <| seq <| region <| sv (yMove rfl) ?_
 refine smake (bytes := 16) (zs := [.int .i64 0, .int .i64 0]) (m := n) hS rfl rfl Tryz.underlying198 ti200 rfl rfl rfl rfl rfl (by omega) (by omega) ?_; clear hS; intro b17 w hS
 rw [rep_flat] at hS
 refine sv (yAsg rfl) <| nil <| cwQ <| seq <| seq <| region <| sv (yMove rfl) <| sv (yLen rfl Tryz.underlying198) <| sv (yMove rfl) ?_
 refine nil <| cwQ <| block <| loop (fun f w zz => ∃ (k : Nat) (l : List Span), f 1 = .int .i64 from_ ∧ f 3 = .pointer (some ⟨b3, 0, none⟩) ∧ f 7 = .slice (some ⟨b17, 0, none⟩) n n ∧ f 19 = .int .i64 (n : Int) ∧ f 20 = .int .i64 (k : Int) ∧ StX [] w0 w [blk b17 (l.flatMap spanC) 200, blk b3 [.int .i64 t.mean, .slice a t.consts.length cap] 24] ∧ (k ≤ n) ∧ (l.length = n) ∧ (∀ i, i < n → l[i]? = some (if i < k then ⟨t.mean, t.mean⟩ else ⟨0, 0⟩)) ∧ zz = n - k) _ ⟨_, rfl, 0, _, rfl, rfl, rfl, rfl, rfl, hS, (Nat.zero_le _), (List.length_replicate), (fun i hi => by simp [hi]), rfl⟩ ?_
 clear hS
 rintro f w _ ⟨k, l, h1, h3, h7, h19, h20, hS, hk, hll, hrow, rfl⟩
 refine seq <| region <| sv (yLss h20 h19) <| nil <| cwQ <| seq ?_
 refine cond rfl (fun c21 => ?_) (fun c21 => ?_)
 ·
  simp only [BS, ne_eq] at c21
  refine skip <| cwQ <| seq <| block <| seq <| region <| sv (yMove h20) <| sv (yAsg rfl) <| nil ?_
  refine cwQ <| region_tail mixed 8 (by kernel_rfl) hS ?_
  have hrow_k := hrow k (by omega)
  rw [if_neg (Nat.lt_irrefl k)] at hrow_k
  refine qv (fun w hS => (yMove h7)) <| qv (fun w hS => (yMove rfl)) <| qv (fun w hS => (yIx0 rfl rfl Tryz.runUnderlying198 Tryz.sizeOf200 (by omega))) <| qv (fun w hS => (fa24_0 h3)) <| qv (fun w hS => (yLdB rfl Tryz.isAgg3 (hS.at _) rfl)) <| qv (fun w hS => (fa24_0 h3)) <| qv (fun w hS => (yLdB rfl Tryz.isAgg3 (hS.at _) rfl)) <| qv (fun w hS => (yBuild Tryz.zeroValue74 rfl pl74 (.cons rfl rfl (.cons rfl rfl .nil)) rfl)) ?_
  clear hS; refine qtl (fun w hS => ?_)
  refine scall Tryz.call154 (.cons rfl (.cons rfl .nil)) (c_add (o := k * 2) (lo := 0) (hi := 0) (x := ⟨t.mean, t.mean⟩) (blk0 (hS.at b17)) (flat2 spanC_len hrow_k 0 rfl) (flat2 spanC_len hrow_k 1 rfl) ⟨by simp only []; omega, by simp only []; omega⟩ ⟨by simp only []; omega, by simp only []; omega⟩) ?_; rintro _ w ⟨rfl, hput⟩; replace hS := hS.put hput; clear hput; simp only [Int.zero_add] at hS
  refine nil <| cwQ <| region <| sv (yAdd h20 rfl ⟨by omega, by omega⟩) <| sv (yMove rfl) <| nil ?_
  exact ⟨_, _, rfl, ⟨k + 1, l.set k ⟨t.mean, t.mean⟩, h1, h3, h7, h19, rfl, (by rw [← splice_enc spanC_len l k _ (by omega)]; exact hS), (by omega), (by simpa using hll), (set_get (A := fun _ => ⟨t.mean, t.mean⟩) (B := fun _ => ⟨0, 0⟩) hll (by omega) rfl hrow), rfl⟩, by omega⟩
 ·
  simp only [BS, ne_eq] at c21
  refine exit <| cwQ <| seq <| seq <| region <| sv (fa24_1 h3) <| sv (yLdB rfl Tryz.isAgg22 (hS.at _) rfl) <| sv (yLen rfl Tryz.underlying22) <| sv (yMove rfl) ?_
  refine nil <| cwQ <| block ?_
  obtain rfl : n = k := by omega
  refine loop (fun f w zz => ∃ (k : Nat) (l : List Span), f 1 = .int .i64 from_ ∧ f 7 = .slice (some ⟨b17, 0, none⟩) n n ∧ f 34 = .slice a t.consts.length cap ∧ f 35 = .int .i64 (t.consts.length : Int) ∧ f 36 = .int .i64 (k : Int) ∧ StX [] w0 w [blk b17 (l.flatMap spanC) 200] ∧ (k ≤ t.consts.length) ∧ (l.length = n) ∧ (∀ i, i < n → l[i]? = some (lvl t.mean (t.consts.take k) (from_ + i))) ∧ zz = t.consts.length - k) _ ⟨_, rfl, 0, _, h1, h7, rfl, rfl, rfl, (hS.sub (.cons_cons _ (List.nil_sublist _))), (Nat.zero_le _), (hll), (fun i hi => by rw [hrow i hi, if_pos hi]; rfl), rfl⟩ ?_
  clear hS
  rintro f w _ ⟨k, l, h1, h7, h34, h35, h36, hS, hk, hll, hrow, rfl⟩
  refine seq <| region <| sv (yLss h36 h35) <| nil <| cwQ <| seq ?_
  refine cond rfl (fun c37 => ?_) (fun c37 => ?_)
  ·
   simp only [BS, ne_eq] at c37
   refine skip <| cwQ <| seq <| block <| seq <| region ?_
   obtain ⟨c, hx, hd⟩ := drop_of (l := t.consts) (k := k) (by omega)
   have hcok : ConstOk c := hok.consts c (List.mem_of_getElem? hx)
   obtain ⟨b, o, cs, ha, hlen, hcs, hR⟩ := hel k (by omega)
   obtain rfl : c = t.consts[k] := (List.getElem?_eq_some_iff.1 hx).2.symm
   generalize t.consts[k] = c at hx hd hR hcok
   obtain ⟨hv, rfl, hn1, hsl1, _, _, _, _⟩ := hR
   obtain ⟨a1, cap1, rfl, hq1, hq2, hq3⟩ := id hsl1
   refine sv (yIxa h34 ha h36 Tryz.runUnderlying22 Tryz.sizeOf196 (by omega) (by omega)) <| sv (yLdA rfl Tryz.isAgg196 Tryz.sizeOf196 (hcs.ext hS.ext) rfl) ?_
   refine salloc hS Tryz.zeroValue196 rfl ?_; clear hS; intro b10 w hS
   refine sst hS rfl rfl Tryz.sizeOf196 rfl rfl rfl rfl ?_; clear hS; intro w hS
   refine nil <| cwQ <| seq <| region <| sv (yLdBA rfl Tryz.isAgg196 Tryz.sizeOf196 (hS.at _) rfl rfl) <| sv (yMove h1) ?_
   refine scall Tryz.call155 (.cons rfl (.cons rfl .nil)) (c_parts hcok ⟨by omega, by omega⟩) ?_
   rintro _ w ⟨bp, bc, rfl, hM⟩; replace hS := hS.call hM; clear hM
   refine sv (yAsg rfl) <| nil <| cwQ <| seq <| region <| sv (yMove h7) <| sv (yLen rfl Tryz.underlying198) <| sv (yMove rfl) <| nil ?_
   refine cwQ <| block ?_
   refine loop (fun f w zz => ∃ (j : Nat) (l : List Span), f 1 = .int .i64 from_ ∧ f 7 = .slice (some ⟨b17, 0, none⟩) n n ∧ f 11 = .func (.func 181) #[] [.pointer (some ⟨bp, 0, none⟩), .pointer (some ⟨bc, 0, none⟩)].toArray ∧ f 34 = .slice a t.consts.length cap ∧ f 35 = .int .i64 (t.consts.length : Int) ∧ f 36 = .int .i64 (k : Int) ∧ f 44 = .int .i64 (n : Int) ∧ f 45 = .int .i64 (j : Int) ∧ StX [] w0 w [blk bp [.int .i64 (pAt c (from_ + j))] 3, blk bc [.string c.name, .slice a1 c.heights.length cap1, .int .i64 c.off, .int .i64 c.step, .int .i64 c.den, .int .i64 c.slack] 196, blk b17 (l.flatMap spanC) 200] ∧ (j ≤ n) ∧ (l.length = n) ∧ (∀ i, i < n → l[i]? = some (if i < j then lvl t.mean (t.consts.take (k + 1)) (from_ + i) else lvl t.mean (t.consts.take k) (from_ + i))) ∧ zz = n - j) _ ⟨_, rfl, 0, _, h1, h7, rfl, h34, h35, h36, rfl, rfl, (by rw [show from_ + ((0 : Nat) : Int) = from_ from Int.add_zero _]; exact hS.sub (.cons_cons _ (.cons_cons _ (.cons _ lrQ)))), (Nat.zero_le _), (hll), (fun i hi => by rw [hrow i hi]; simp), rfl⟩ ?_
   clear hS
   rintro f w _ ⟨j, l, h1, h7, h11, h34, h35, h36, h44, h45, hS, hj, hll, hrow, rfl⟩
   refine seq <| region <| sv (yLss h45 h44) <| nil <| cwQ <| seq ?_
   refine cond rfl (fun c46 => ?_) (fun c46 => ?_)
   ·
    simp only [BS, ne_eq] at c46
    refine skip <| cwQ <| seq <| block <| seq <| region <| sv (yMove h45) <| sv (yAsg rfl) <| nil ?_
    refine cwQ ?_
    refine region_any (C := (fun _ => True)) mixed 4 6 (by kernel_rfl) (fun c a a' w h => by obtain ⟨_, v, hv, _⟩ := h; cases hv) hS (fun _ _ => trivial) ?_
    clear hS; intro w hS
    have hrow_k := hrow j (by omega)
    rw [if_neg (Nat.lt_irrefl j)] at hrow_k
    have hlb := lvl_bd hmean (t.consts.take k) (from_ + j) (fun x hx => hok.consts x (List.mem_of_mem_take hx))
    have htl : (t.consts.take k).length ≤ 12 := by simp; omega
    have hpb := partP_bd hcok (pAt_bd hcok (from_ + j))
    refine hv (fun w hS => (yMove h7)) <| hv (fun w hS => (yMove rfl)) <| hv (fun w hS => (yIx0 rfl rfl Tryz.runUnderlying198 Tryz.sizeOf200 (by omega))) <| hv (fun w hS => (yMove h11)) <| hnil <| awQ <| a1Q 4 (by kernel_rfl) rfl ?_
    refine scallf rfl Tryz.call181 .nil (c_parts1 (hS.at bp) (hS.at bc) (hS.ne2 (by simp [fps, cellI])) hcok (pAt_bd hcok _) hS.ext (hS.owned (by simp [fps, cellI])) hsl1) ?_; rintro _ w ⟨rfl, hput⟩; replace hS := hS.put hput; clear hput
    refine nil ?_
    refine ⟨fun _ => trivial, ?_⟩
    refine awQ <| a1Q 5 (by kernel_rfl) rfl ?_
    refine scall Tryz.call154 (.cons rfl (.cons rfl .nil)) (c_add (o := j * 2) (x := partP c (pAt c (from_ + j))) (blk0 (hS.at b17)) (flat2 spanC_len hrow_k 0 rfl) (flat2 spanC_len hrow_k 1 rfl) ⟨by omega, by omega⟩ ⟨by omega, by omega⟩) ?_; rintro _ w ⟨rfl, hput⟩; replace hS := hS.put hput; clear hput
    refine nil ?_
    refine ⟨fun _ => trivial, ?_⟩
    refine awQ <| a_end (by kernel_rfl) <| cwQ <| region <| sv (yAdd h45 rfl ⟨by omega, by omega⟩) <| sv (yMove rfl) <| nil ?_
    exact ⟨_, _, rfl, ⟨j + 1, l.set j (addS (lvl t.mean (t.consts.take k) (from_ + j)) (partP c (pAt c (from_ + j)))), h1, h7, h11, h34, h35, h36, h44, rfl, (by rw [← splice_enc spanC_len l j _ (by omega), show from_ + ((j + 1 : Nat) : Int) = from_ + j + 1 by omega, ← pAt_succ]; exact hS), (by omega), (by simpa using hll), (set_get (A := fun (i : Nat) => lvl t.mean (t.consts.take (k + 1)) (from_ + i)) (B := fun (i : Nat) => lvl t.mean (t.consts.take k) (from_ + i)) hll (by omega) (lvl_take hx t.mean (from_ + j)).symm hrow), rfl⟩, by omega⟩
   ·
    simp only [BS, ne_eq] at c46
    refine exit <| cwQ <| region <| sv (yAdd h36 rfl ⟨by omega, by omega⟩) <| sv (yMove rfl) <| nil ?_
    obtain rfl : n = j := by omega
    exact ⟨_, _, rfl, ⟨k + 1, _, h1, h7, h34, h35, rfl, (hS.sub (.cons _ (.cons _ (.cons_cons _ (List.nil_sublist _))))), (by omega), (hll), (fun i hi => by rw [hrow i hi, if_pos hi]), rfl⟩, by omega⟩
  ·
   simp only [BS, ne_eq] at c37
   refine exit <| cwQ <| seq <| region <| sv (yAsg rfl) <| nil <| cwQ <| seq <| seq ?_
   refine region <| sv (yMove h7) <| sv (yLen rfl Tryz.underlying198) <| sv (yMove rfl) <| nil <| cwQ <| block ?_
   obtain rfl : k = t.consts.length := by omega
   refine loop (fun f w zz => ∃ (j : Nat) (v : Value), f 13 = v ∧ f 56 = .slice (some ⟨b17, 0, none⟩) n n ∧ f 57 = .int .i64 (n : Int) ∧ f 58 = .int .i64 (j : Int) ∧ StX [] w0 w [rowI v 74 2 j (((List.range j).map fun (i : Nat) => lvlT t (from_ + i)).flatMap spanC), blk b17 (l.flatMap spanC) 200] ∧ (j ≤ n) ∧ (l.length = n) ∧ (∀ i, i < n → l[i]? = some (lvlT t (from_ + i))) ∧ zz = n - j) _ ⟨_, rfl, 0, _, rfl, rfl, rfl, rfl, (hS.nilrow 74 2), (Nat.zero_le _), (hll), (fun i hi => by rw [hrow i hi, List.take_length]; rfl), rfl⟩ ?_
   clear hS
   rintro f w _ ⟨j, v, h13, h56, h57, h58, hS, hj, hll, hrow, rfl⟩
   refine seq <| region <| sv (yLss h58 h57) <| nil <| cwQ <| seq ?_
   refine cond rfl (fun c59 => ?_) (fun c59 => ?_)
   ·
    simp only [BS, ne_eq] at c59
    refine skip <| cwQ <| seq <| block <| seq <| region ?_
    have hrow_j := hrow j (by omega)
    refine sv (yIx0 h56 h58 Tryz.runUnderlying198 Tryz.sizeOf200 (by omega)) <| sv (yLdA rfl Tryz.isAgg200 Tryz.sizeOf200 (flat_cells0 spanC_len (blk_cells (hS.at b17)) hrow_j) rfl) ?_
    refine salloc hS Tryz.zeroValue200 rfl ?_; clear hS; intro b15 w hS
    refine sst hS rfl rfl Tryz.sizeOf200 rfl rfl rfl rfl ?_; clear hS; intro w hS
    refine nil <| cwQ <| region <| sv (yMove h13) <| sv (fa200_0 rfl) <| sv (yLdBA rfl Tryz.isAgg74 Tryz.sizeOf74 (hS.at _) rfl rfl) ?_
    refine sbslice hS Tryz.underlying86 Tryz.sizeOf74 rfl Tryz.zeroValue74 rfl (.cons rfl rfl .nil) rfl ?_; clear hS; intro b65 w hS
    refine sapp (bytes := 16) (size := 2) (v := v) (m := 1) hS rfl rfl Tryz.underlying86 ti74 rfl rfl rfl rfl (by decide) (blk_cells (hS.at _)) rfl rfl (by omega) (by omega) ?_; clear hS; intro v66 w hS
    refine sv (yAsg rfl) <| nil <| cwQ <| region <| sv (yAdd h58 rfl ⟨by omega, by omega⟩) <| sv (yMove rfl) <| nil ?_
    exact ⟨_, _, rfl, ⟨j + 1, _, rfl, h56, h57, rfl, (by rw [List.range_succ, List.map_append, List.flatMap_append]; exact hS.sub (.cons _ (.cons _ lrQ))), (by omega), (hll), (hrow), rfl⟩, by omega⟩
   ·
    simp only [BS, ne_eq] at c59
    refine exit <| cwQ <| seq <| region <| sv (yMove h13) <| sv (yAsg rfl) <| nil <| cwQ ?_
    obtain rfl : n = j := by omega
    refine wp_ret <| retQ (res1 rfl rfl) ?_
    show St w0 w [rowI v 74 2 n _]; exact hS.one _
theorem c_ticks1 {h : Int} {w0 : World} : CV Tryz.prog 170 #[.int .i64 h] w0 (.bool (outB h 0 200000)) := by
 refine enter Tryz.func170 rfl Tryz.ntmps170 rfl ?_
 have hS := St.start w0
 refine seq <| region <| sv (yAsg rfl) <| nil <| cwQ <| seq <| region <| sv (yMove rfl) ?_
 refine scall Tryz.call72 (.cons rfl (.cons rfl (.cons rfl .nil))) c_out ?_
 rintro _ w ⟨rfl, hE⟩; replace hS := hS.step hE; clear hE
 refine sv (yAsg rfl) <| nil <| cwQ <| wp_ret ?_
 exact retV (res1 rfl rfl) hS.ext
theorem c_ticks {l : List Int} {v : Value} {w0 : World} (hsl : Sl w0 1 RInt v l) : CV Tryz.prog 132 #[v] w0 (.int .i64 (ticksE l)) := by
 refine enter Tryz.func132 rfl Tryz.ntmps132 rfl ?_
 have hS := St.start w0
 refine seq <| region <| sv (yAsg rfl) <| nil <| cwQ <| seq <| seq <| region <| sv (yMove rfl) ?_
 refine scall Tryz.call108 (.cons rfl (.cons rfl .nil)) (c_ContainsFuncInt (cl := []) (hsl.ext RInt.stays hS.ext) Tryz.call170 (fun x cs w _ _ _ => c_ticks1)) ?_
 rintro _ w ⟨rfl, hE⟩; replace hS := hS.step hE; clear hE
 refine nil <| cwQ ?_
 refine cond rfl (fun c4 => ?_) (fun c4 => ?_)
 ·
  refine seq <| region <| sv (yAsg rfl) <| nil <| cwQ ?_
  refine wp_ret (thenR ?_)
  exact retV (res1 rfl (eqI (by unfold ticksE; rw [if_pos c4]))) hS.ext
 ·
  refine skip <| cwQ <| seq <| region <| sv (yAsg rfl) <| nil <| cwQ <| wp_ret ?_
  exact retV (res1 rfl (eqI (by unfold ticksE; rw [if_neg (by rw [c4]; decide)]))) hS.ext
end Go.Proofs.YtgidbailiababaaGreatDoor

/- part Sk4 -/
namespace Go.Proofs.YtgidbailiababaaGreatDoor
open Go Bx
theorem c_CheckGauge1 {b : Nat} {T : TypeId} {g : Gauge} {dv rv : Value} {w0 : World} (hb : w0.heap[b]? = some (.cells [.string g.name, .int .i64 g.err, .int .i64 g.rate, dv, rv].toArray T (0, 0))) (hs : g.name.size ≤ 9223372036854775807) : CV Tryz.prog 156 #[.pointer (some ⟨b, 0, none⟩)] w0 (.bool (!isName g.name)) := by
 refine enter Tryz.func156 rfl Tryz.ntmps156 rfl ?_
 have hS := St.start w0
 refine seq <| region <| sv (yAsg rfl) <| nil <| cwQ <| seq <| region <| sv (fa68_0 rfl) <| sv (yLdB rfl Tryz.isAgg9 (hS.ext.get hb) rfl) ?_
 refine scall Tryz.call102 (.cons rfl .nil) (c_Name hs) ?_
 rintro _ w ⟨rfl, hE⟩; replace hS := hS.step hE; clear hE
 refine sv (yNot rfl) <| sv (yAsg rfl) <| nil <| cwQ <| wp_ret ?_
 exact retV (res1 rfl rfl) hS.ext
theorem c_CheckGauge2 {b : Nat} {T : TypeId} {g : Gauge} {dv rv : Value} {w0 : World} (hb : w0.heap[b]? = some (.cells [.string g.name, .int .i64 g.err, .int .i64 g.rate, dv, rv].toArray T (0, 0))) : CV Tryz.prog 157 #[.pointer (some ⟨b, 0, none⟩)] w0 (.bool (outB g.err 0 5000 || outB g.rate 0 5000)) := by
 refine enter Tryz.func157 rfl Tryz.ntmps157 rfl ?_
 have hS := St.start w0
 refine seq <| region <| sv (yAsg rfl) <| nil <| cwQ <| seq <| region <| sv (fa68_1 rfl) <| sv (yLdB rfl Tryz.isAgg3 (hS.ext.get hb) rfl) ?_
 refine scall Tryz.call72 (.cons rfl (.cons rfl (.cons rfl .nil))) c_out ?_
 rintro _ w ⟨rfl, hE⟩; replace hS := hS.step hE; clear hE
 refine sv (yMove rfl) ?_
 refine sg rfl rfl rfl (fun g => (fa68_2 rfl)) (fun v6 g6 => ?_)
 refine sg rfl rfl rfl (fun g => (yLdB (g6.1 g) Tryz.isAgg3 (hS.ext.get hb) rfl)) (fun v7 g7 => ?_)
 refine sgc hS rfl rfl rfl Tryz.call72 (fun g => (.cons (g7.1 g) (.cons rfl (.cons rfl .nil)))) (fun g => c_out) ?_; clear hS; intro v8 w hS g8
 refine sv (yOr rfl rfl (fun hB => (g8.1 hB))) <| sv (yAsg rfl) <| nil <| cwQ <| wp_ret ?_
 exact retV (res1 rfl rfl) hS.ext
set_option maxHeartbeats 1000000 in
theorem c_CheckGauge {g : Gauge} {cs : List Value} {w0 : World} (hg : RGauge w0 cs g) : CV Tryz.prog 101 #[.agg cs.toArray] w0 (.tuple #[.int .i64 (checkG g).1, .int .i64 (checkG g).2.1, .int .i64 (checkG g).2.2]) := by
 obtain ⟨dv, rv, rfl, hnm, hge, hgr, hsd, hsr⟩ := id hg
 obtain ⟨a, cap, rfl, hcap, hmx, hel⟩ := id hsd
 obtain ⟨a2, cap2, rfl, hcap2, hmx2, hel2⟩ := id hsr
 refine enter Tryz.func101 rfl Tryz.ntmps101 rfl ?_
 have hS := St.start w0
 refine seq <| region ?_
 refine sbox hS rfl rfl ?_; clear hS; intro b1 w hS
 refine sv (yAsg rfl) <| sv (yAsg rfl) <| sv (yAsg rfl) <| nil <| cwQ <| seq <| region <| sv (yFn (.cons rfl .nil)) <| sv (yBuild Tryz.zeroValue194 rfl pl194 (.cons rfl rfl (.cons rfl rfl .nil)) rfl) ?_
 refine sv (yFn (.cons rfl .nil)) <| sv (yBuild Tryz.zeroValue194 rfl pl194 (.cons rfl rfl (.cons rfl rfl .nil)) rfl) ?_
 refine sbslice hS Tryz.underlying224 Tryz.sizeOf194 rfl Tryz.zeroValue194 rfl (.cons rfl rfl (.cons rfl rfl .nil)) rfl ?_; clear hS; intro b15 w hS
 refine scall Tryz.call145 (.cons rfl .nil) (c_first (rs := [⟨156, [.pointer (some ⟨b1, 0, none⟩)], 6, !isName g.name⟩, ⟨157, [.pointer (some ⟨b1, 0, none⟩)], 7, outB g.err 0 5000 || outB g.rate 0 5000⟩]) (hS.at _) ⟨Tryz.call156, fun w e => c_CheckGauge1 (e.get (hS.at b1)) hnm, fun _ => ⟨Tryz.call157, fun w e => c_CheckGauge2 (e.get (hS.at b1)), fun _ => trivial⟩⟩ (Nat.le_of_ble_eq_true rfl) (gErr_eq g _ _ _ _)) ?_
 rintro _ w ⟨rfl, hE⟩; replace hS := hS.step hE; clear hE
 refine sv (yAsg rfl) <| nil <| cwQ <| seq <| block <| seq <| region <| sv (yMove rfl) <| sv (yNeq rfl rfl) ?_
 refine sv (yAsg rfl) <| nil <| cwQ ?_
 refine cond rfl (fun c17 => ?_) (fun c17 => ?_)
 ·
  simp only [BS, ne_eq] at c17
  refine seq <| region <| sv (yMove rfl) <| sv (yAsg rfl) <| sv (yAsg rfl) <| sv (yAsg rfl) <| nil <| cwQ ?_
  have hfin : checkG g = (1, 0, gErr g) := by unfold checkG; rw [if_pos c17]
  refine wp_ret (blockR (thenR ?_))
  exact retV (res3 rfl (fstI hfin) (thd1I hfin) (thd2I hfin)) hS.ext
 ·
  simp only [BS, ne_eq] at c17
  refine seq <| region <| sv (fa68_3 rfl) <| sv (yLdB rfl Tryz.isAgg65 (hS.at _) rfl) <| sv (yLen rfl Tryz.underlying65) ?_
  refine scall Tryz.call72 (.cons rfl (.cons rfl (.cons rfl .nil))) c_out ?_
  rintro _ w ⟨rfl, hE⟩; replace hS := hS.step hE; clear hE
  refine sv (yAsg rfl) <| nil <| cwQ ?_
  refine cond rfl (fun c21 => ?_) (fun c21 => ?_)
  ·
   refine seq <| region <| sv (yAsg rfl) <| sv (yAsg rfl) <| sv (yAsg rfl) <| nil <| cwQ ?_
   have hfin : checkG g = (2, 0, 3) := by unfold checkG; rw [if_neg (fun h => h c17), if_pos c21]
   refine wp_ret (blockR (thenR ?_))
   exact retV (res3 rfl (fstI hfin) (thd1I hfin) (thd2I hfin)) hS.ext
  ·
   refine skip <| cwQ <| seq <| region <| sv (yAsg rfl) <| nil <| cwQ <| seq <| seq ?_
   refine region <| sv (fa68_3 rfl) <| sv (yLdB rfl Tryz.isAgg65 (hS.at _) rfl) <| sv (yLen rfl Tryz.underlying65) <| sv (yMove rfl) <| nil <| cwQ <| block ?_
   refine loop (fun f w zz => ∃ (k : Nat) (bef : Int), f 1 = .pointer (some ⟨b1, 0, none⟩) ∧ f 5 = .int .i64 bef ∧ f 27 = .slice a g.datums.length cap ∧ f 28 = .int .i64 (g.datums.length : Int) ∧ f 29 = .int .i64 (k : Int) ∧ StX [] w0 w [blk b1 [.string g.name, .int .i64 g.err, .int .i64 g.rate, .slice a g.datums.length cap, .slice a2 g.readings.length cap2] 68] ∧ (k ≤ g.datums.length) ∧ (Bd bef (-1) 200000) ∧ (checkG g = checkD (checkRs g) (g.datums.drop k) bef k) ∧ zz = g.datums.length - k) _ ⟨_, rfl, 0, -1, rfl, rfl, rfl, rfl, rfl, (hS.sub (.cons _ (.cons_cons _ (List.nil_sublist _)))), (Nat.zero_le _), (by omega), (by unfold checkG; rw [if_neg (fun h => h c17), if_neg (by rw [c21]; decide)]; rfl), rfl⟩ ?_
   clear hS
   rintro f w _ ⟨k, bef, h1, h5, h27, h28, h29, hS, hk, hb, hI, rfl⟩
   refine seq <| region <| sv (yLss h29 h28) <| nil <| cwQ <| seq ?_
   refine cond rfl (fun c30 => ?_) (fun c30 => ?_)
   ·
    simp only [BS, ne_eq] at c30
    refine skip <| cwQ <| seq <| block <| seq <| region ?_
    obtain ⟨d, hx, hd⟩ := drop_of (l := g.datums) (k := k) (by omega)
    obtain ⟨b, o, cs, ha, hlen, hcs, hR⟩ := hel (k) (by omega)
    obtain rfl : d = g.datums[k] := (List.getElem?_eq_some_iff.1 hx).2.symm
    generalize g.datums[k] = d at hx hd hR
    obtain ⟨rfl, hd1, hd2, hd3⟩ := hR
    refine sv (yMove h29) <| sv (yIxa h27 ha h29 Tryz.runUnderlying65 Tryz.sizeOf205 (by omega) (by omega)) <| sv (yLdA rfl Tryz.isAgg205 Tryz.sizeOf205 (hcs.ext hS.ext) rfl) ?_
    refine salloc hS Tryz.zeroValue205 rfl ?_; clear hS; intro b7 w hS
    refine sv (yAsg rfl) ?_
    refine sst hS rfl rfl Tryz.sizeOf205 rfl rfl rfl rfl ?_; clear hS; intro w hS
    refine nil <| cwQ <| seq <| region <| sv (fa205_1 rfl) <| sv (yLdBA rfl Tryz.isAgg74 Tryz.sizeOf74 (hS.at _) rfl rfl) ?_
    refine salloc hS Tryz.zeroValue74 rfl ?_; clear hS; intro b8 w hS
    refine sst hS rfl rfl Tryz.sizeOf74 rfl rfl rfl rfl ?_; clear hS; intro w hS
    refine nil <| cwQ <| seq <| seq <| region <| sv (fa205_0 rfl) <| sv (yLdB rfl Tryz.isAgg3 (hS.at _) rfl) <| sv (yMove h5) <| sv (yAdd rfl rfl ⟨by omega, by omega⟩) ?_
    refine scall Tryz.call72 (.cons rfl (.cons rfl (.cons rfl .nil))) c_out ?_
    rintro _ w ⟨rfl, hE⟩; replace hS := hS.step hE; clear hE
    refine sv (yMove rfl) ?_
    refine sg rfl rfl rfl (fun g => (yMove rfl)) (fun v42 g42 => ?_)
    refine sg rfl rfl rfl (fun g => (yEql (g42.1 g) rfl)) (fun v43 g43 => ?_)
    refine sg rfl rfl rfl (fun g => (yMove (g43.1 g))) (fun v44 g44 => ?_)
    refine sgg rfl rfl g44 (fun g => (fa205_0 rfl)) (fun v45 g45 => ?_)
    refine sgg rfl rfl g44 (fun g => (yLdB (g45.1 g) Tryz.isAgg3 (hS.at _) rfl)) (fun v46 g46 => ?_)
    refine sgg rfl rfl g44 (fun g => (yGtr (g46.1 g) rfl)) (fun v47 g47 => ?_)
    refine sg rfl rfl rfl (fun g => (yAnd (g44.1 g) (fun hB => (g47.1 ⟨g, hB⟩)) rfl)) (fun v48 g48 => ?_)
    refine sv (yOr rfl rfl (fun hB => (g48.1 hB))) <| sv (yMove rfl) ?_
    refine sg rfl rfl rfl (fun g => (fa74_1 rfl)) (fun v51 g51 => ?_)
    refine sg rfl rfl rfl (fun g => (yLdB (g51.1 g) Tryz.isAgg3 (hS.at _) rfl)) (fun v52 g52 => ?_)
    refine sgc hS rfl rfl rfl Tryz.call72 (fun g => (.cons (g52.1 g) (.cons rfl (.cons rfl .nil)))) (fun g => c_out) ?_; clear hS; intro v53 w hS g53
    refine sv (yOr rfl rfl (fun hB => (g53.1 hB))) <| sv (yMove rfl) ?_
    refine sg rfl rfl rfl (fun g => (fa74_0 rfl)) (fun v56 g56 => ?_)
    refine sg rfl rfl rfl (fun g => (yLdB (g56.1 g) Tryz.isAgg3 (hS.at _) rfl)) (fun v57 g57 => ?_)
    refine sg rfl rfl rfl (fun g => (fa74_1 rfl)) (fun v58 g58 => ?_)
    refine sg rfl rfl rfl (fun g => (yLdB (g58.1 g) Tryz.isAgg3 (hS.at _) rfl)) (fun v59 g59 => ?_)
    refine sgc hS rfl rfl rfl Tryz.call72 (fun g => (.cons (g57.1 g) (.cons rfl (.cons (g59.1 g) .nil)))) (fun g => c_out) ?_; clear hS; intro v60 w hS g60
    refine sv (yOr rfl rfl (fun hB => (g60.1 hB))) <| nil <| cwQ ?_
    refine cond rfl (fun c61 => ?_) (fun c61 => ?_)
    ·
     refine seq <| region <| sv (yMove rfl) <| sv (yAsg rfl) <| sv (yAsg rfl) <| sv (yAsg rfl) <| nil <| cwQ ?_
     have hfin : checkG g = (2, (k : Int), 7) := by rw [hI, hd, checkD, if_pos (show datBad bef k d = true from c61)]
     refine wp_ret (thenR (blockR (thenR (thenR (blockR (thenR ?_))))))
     exact retV (res3 rfl (fstI hfin) (thd1I hfin) (thd2I hfin)) hS.ext
    ·
     refine skip <| cwQ <| region <| sv (fa205_0 rfl) <| sv (yLdB rfl Tryz.isAgg3 (hS.at _) rfl) <| sv (yAsg rfl) <| nil <| cwQ <| region ?_
     refine sv (yAdd h29 rfl ⟨by omega, by omega⟩) <| sv (yMove rfl) <| nil ?_
     exact ⟨_, _, rfl, ⟨k + 1, d.start, h1, rfl, h27, h28, rfl, (hS.sub (.cons _ (.cons _ lrQ))), (by omega), (by have := datBad_iff.1 c61; omega), (by rw [hI, hd, checkD, if_neg (by rw [show datBad bef k d = false from c61]; decide)]), rfl⟩, by omega⟩
   ·
    simp only [BS, ne_eq] at c30
    refine exit <| cwQ <| seq <| seq <| region <| sv (fa68_4 h1) <| sv (yLdB rfl Tryz.isAgg66 (hS.at _) rfl) <| sv (yLen rfl Tryz.underlying66) <| sv (yGtr rfl rfl) ?_
    refine nil <| cwQ ?_
    refine cond rfl (fun c69 => ?_) (fun c69 => ?_)
    ·
     simp only [BS, ne_eq] at c69
     obtain rfl : k = g.datums.length := by omega
     rw [List.drop_length, checkD] at hI
     unfold checkRs at hI
     refine seq <| region <| sv (yAsg rfl) <| sv (yAsg rfl) <| sv (yAsg rfl) <| nil <| cwQ ?_
     have hfin : checkG g = (3, 0, 3) := by rw [hI, if_pos c69]
     refine wp_ret (thenR ?_)
     exact retV (res3 rfl (fstI hfin) (thd1I hfin) (thd2I hfin)) hS.ext
    ·
     simp only [BS, ne_eq] at c69
     obtain rfl : k = g.datums.length := by omega
     rw [List.drop_length, checkD] at hI
     unfold checkRs at hI
     refine skip <| cwQ <| seq <| region <| sv (yAsg rfl) <| nil <| cwQ <| seq <| seq ?_
     refine region <| sv (fa68_4 h1) <| sv (yLdB rfl Tryz.isAgg66 (hS.at _) rfl) <| sv (yLen rfl Tryz.underlying66) <| sv (yMove rfl) <| nil <| cwQ <| block ?_
     refine loop (fun f w zz => ∃ (k : Nat) (bef : Int), f 5 = .int .i64 bef ∧ f 71 = .slice a2 g.readings.length cap2 ∧ f 72 = .int .i64 (g.readings.length : Int) ∧ f 73 = .int .i64 (k : Int) ∧ StX [] w0 w [] ∧ (k ≤ g.readings.length) ∧ (Bd bef (-1) 200000) ∧ (checkG g = checkR (g.readings.drop k) bef k) ∧ zz = g.readings.length - k) _ ⟨_, rfl, 0, -1, rfl, rfl, rfl, rfl, (hS.sub (List.nil_sublist _)), (Nat.zero_le _), (by omega), (by rw [hI, if_neg (by omega)]; rfl), rfl⟩ ?_
     clear hS
     rintro f w _ ⟨k, bef, h5, h71, h72, h73, hS, hk, hb, hI, rfl⟩
     refine seq <| region <| sv (yLss h73 h72) <| nil <| cwQ <| seq ?_
     refine cond rfl (fun c74 => ?_) (fun c74 => ?_)
     ·
      simp only [BS, ne_eq] at c74
      refine skip <| cwQ <| seq <| block <| seq <| region ?_
      obtain ⟨r, hx, hd⟩ := drop_of (l := g.readings) (k := k) (by omega)
      obtain ⟨b, o, cs, ha, hlen, hcs, hR⟩ := hel2 (k) (by omega)
      obtain rfl : r = g.readings[k] := (List.getElem?_eq_some_iff.1 hx).2.symm
      generalize g.readings[k] = r at hx hd hR
      obtain ⟨rfl, hr1, hr2⟩ := hR
      refine sv (yMove h73) <| sv (yIxa h71 ha h73 Tryz.runUnderlying66 Tryz.sizeOf70 (by omega) (by omega)) <| sv (yLdA rfl Tryz.isAgg70 Tryz.sizeOf70 (hcs.ext hS.ext) rfl) ?_
      refine salloc hS Tryz.zeroValue70 rfl ?_; clear hS; intro b10 w hS
      refine sv (yAsg rfl) ?_
      refine sst hS rfl rfl Tryz.sizeOf70 rfl rfl rfl rfl ?_; clear hS; intro w hS
      refine nil <| cwQ <| seq <| seq <| region <| sv (fa70_0 rfl) <| sv (yLdB rfl Tryz.isAgg3 (hS.at _) rfl) <| sv (yMove h5) <| sv (yAdd rfl rfl ⟨by omega, by omega⟩) ?_
      refine scall Tryz.call72 (.cons rfl (.cons rfl (.cons rfl .nil))) c_out ?_
      rintro _ w ⟨rfl, hE⟩; replace hS := hS.step hE; clear hE
      refine sv (yMove rfl) ?_
      refine sg rfl rfl rfl (fun g => (fa70_1 rfl)) (fun v84 g84 => ?_)
      refine sg rfl rfl rfl (fun g => (yLdB (g84.1 g) Tryz.isAgg3 (hS.at _) rfl)) (fun v85 g85 => ?_)
      refine sgc hS rfl rfl rfl Tryz.call72 (fun g => (.cons (g85.1 g) (.cons rfl (.cons rfl .nil)))) (fun g => c_out) ?_; clear hS; intro v86 w hS g86
      refine sv (yOr rfl rfl (fun hB => (g86.1 hB))) <| nil <| cwQ ?_
      refine cond rfl (fun c87 => ?_) (fun c87 => ?_)
      ·
       refine seq <| region <| sv (yMove rfl) <| sv (yAsg rfl) <| sv (yAsg rfl) <| sv (yAsg rfl) <| nil <| cwQ ?_
       have hfin : checkG g = (3, (k : Int), 7) := by rw [hI, hd, checkR, if_pos (show readBad bef r = true from c87)]
       refine wp_ret (thenR (blockR (thenR (thenR (blockR (thenR ?_))))))
       exact retV (res3 rfl (fstI hfin) (thd1I hfin) (thd2I hfin)) hS.ext
      ·
       refine skip <| cwQ <| region <| sv (fa70_0 rfl) <| sv (yLdB rfl Tryz.isAgg3 (hS.at _) rfl) <| sv (yAsg rfl) <| nil <| cwQ <| region ?_
       refine sv (yAdd h73 rfl ⟨by omega, by omega⟩) <| sv (yMove rfl) <| nil ?_
       exact ⟨_, _, rfl, ⟨k + 1, r.tick, rfl, h71, h72, rfl, (hS.sub (List.nil_sublist _)), (by omega), (by have := readBad_iff.1 c87; omega), (by rw [hI, hd, checkR, if_neg (by rw [show readBad bef r = false from c87]; decide)]), rfl⟩, by omega⟩
     ·
      simp only [BS, ne_eq] at c74
      refine exit <| cwQ <| seq <| region <| sv (yAsg rfl) <| sv (yAsg rfl) <| sv (yAsg rfl) <| nil <| cwQ ?_
      obtain rfl : k = g.readings.length := by omega
      have hfin : checkG g = (0, 0, 0) := by rw [hI, List.drop_length]; rfl
      refine wp_ret ?_
      exact retV (res3 rfl (fstI hfin) (thd1I hfin) (thd2I hfin)) hS.ext
theorem c_isNaN {a : Int} {w0 : World} : CV Tryz.prog 175 #[.int .i64 a] w0 (.bool false) := by
 refine enter Tryz.func175 rfl Tryz.ntmps175 rfl ?_
 have hS := St.start w0
 refine seq <| region <| sv (yAsg rfl) <| nil <| cwQ <| seq <| region <| sv (yMove rfl) <| sv (yMove rfl) ?_
 refine sv (yNeq rfl rfl) <| sv (yAsg rfl) <| nil <| cwQ <| wp_ret ?_
 exact retV (res1 rfl (eqB (by simp))) hS.ext
theorem c_Compare {a b : Int} {w0 : World} : CV Tryz.prog 138 #[.int .i64 a, .int .i64 b] w0 (.int .i64 (cmpI a b)) := by
 refine enter Tryz.func138 rfl Tryz.ntmps138 rfl ?_
 have hS := St.start w0
 refine seq <| region <| sv (yAsg rfl) <| nil <| cwQ <| seq <| region <| sv (yMove rfl) ?_
 refine scall Tryz.call175 (.cons rfl .nil) c_isNaN ?_
 rintro _ w ⟨rfl, hE⟩; replace hS := hS.step hE; clear hE
 refine sv (yAsg rfl) <| nil <| cwQ <| seq <| region <| sv (yMove rfl) ?_
 refine scall Tryz.call175 (.cons rfl .nil) c_isNaN ?_
 rintro _ w ⟨rfl, hE⟩; replace hS := hS.step hE; clear hE
 refine sv (yAsg rfl) <| nil <| cwQ <| seq <| seq <| region <| sv (yMove rfl) <| nil <| cwQ ?_
 refine cond rfl (fun c11 => ?_) (fun c11 => ?_)
 ·
  exact absurd c11 (by decide)
 ·
  refine skip <| cwQ <| seq <| seq <| region <| sv (yMove rfl) <| nil <| cwQ ?_
  refine cond rfl (fun c13 => ?_) (fun c13 => ?_)
  ·
   exact absurd c13 (by decide)
  ·
   refine skip <| cwQ <| seq <| seq <| region <| sv (yMove rfl) <| sv (yMove rfl) <| sv (yLss rfl rfl) <| nil ?_
   refine cwQ ?_
   refine cond rfl (fun c16 => ?_) (fun c16 => ?_)
   ·
    simp only [BS, ne_eq] at c16
    refine seq <| region <| sv (yAsg rfl) <| nil <| cwQ ?_
    refine wp_ret (thenR ?_)
    exact retV (res1 rfl (eqI (by unfold cmpI; rw [if_pos c16]))) hS.ext
   ·
    simp only [BS, ne_eq] at c16
    refine skip <| cwQ <| seq <| seq <| region <| sv (yMove rfl) <| sv (yMove rfl) <| sv (yGtr rfl rfl) <| nil ?_
    refine cwQ ?_
    refine cond rfl (fun c19 => ?_) (fun c19 => ?_)
    ·
     simp only [BS, ne_eq] at c19
     refine seq <| region <| sv (yAsg rfl) <| nil <| cwQ ?_
     refine wp_ret (thenR ?_)
     exact retV (res1 rfl (eqI (by unfold cmpI; rw [if_neg c16, if_pos c19]))) hS.ext
    ·
     simp only [BS, ne_eq] at c19
     refine skip <| cwQ <| seq <| region <| sv (yAsg rfl) <| nil <| cwQ <| wp_ret ?_
     exact retV (res1 rfl (eqI (by unfold cmpI; rw [if_neg c16, if_neg c19]))) hS.ext
theorem c_datum1 {d : Datum} {t : Int} {w0 : World} : CV Tryz.prog 203 #[.agg (datumC d).toArray, .int .i64 t] w0 (.int .i64 (cmpI d.start t)) := by
 refine enter Tryz.func203 rfl Tryz.ntmps203 rfl ?_
 have hS := St.start w0
 refine seq <| region ?_
 refine sbox hS rfl rfl ?_; clear hS; intro b2 w hS
 refine sv (yAsg rfl) <| nil <| cwQ <| seq <| region <| sv (fa205_0 rfl) <| sv (yLdB rfl Tryz.isAgg3 (hS.at _) rfl) <| sv (yMove rfl) ?_
 refine scall Tryz.call138 (.cons rfl (.cons rfl .nil)) c_Compare ?_
 rintro _ w ⟨rfl, hE⟩; replace hS := hS.step hE; clear hE
 refine sv (yAsg rfl) <| nil <| cwQ <| wp_ret ?_
 exact retV (res1 rfl rfl) hS.ext
set_option maxHeartbeats 1000000 in
theorem c_SearchDatum {l : List Datum} {v : Value} {t : Int} {w0 : World} (hsl : Sl w0 3 RDatum v l) (hp : l.Pairwise fun a b => a.start < b.start) (hl : l.length ≤ 1000) : CE Tryz.prog 202 #[v, .int .i64 t, .func (.func 203) #[] #[]] w0 (fun v w' => ∃ i is, v = .tuple #[.int .i64 ((i : Nat) : Int), .bool is] ∧ searchD l t i is ∧ Ext w0 w') := by
 obtain ⟨a, cap, rfl, hcap, hmx, hel⟩ := id hsl
 refine enter Tryz.func202 rfl Tryz.ntmps202 rfl ?_
 have hS := St.start w0
 refine seq <| region <| sv (yAsg rfl) <| sv (yAsg rfl) <| nil <| cwQ <| seq <| region <| sv (yMove rfl) ?_
 refine sv (yLen rfl Tryz.underlying65) <| sv (yAsg rfl) <| nil <| cwQ <| seq <| region <| sv (yMove rfl) <| sv (yAsg rfl) <| sv (yAsg rfl) ?_
 refine nil <| cwQ <| seq <| block ?_
 refine loop (fun f w zz => ∃ (i j : Nat), f 0 = .slice a l.length cap ∧ f 1 = .int .i64 t ∧ f 2 = .func (.func 203) #[] #[] ∧ f 8 = .int .i64 (l.length : Int) ∧ f 9 = .int .i64 (i : Int) ∧ f 10 = .int .i64 (j : Int) ∧ StX [] w0 w [] ∧ (i ≤ j ∧ j ≤ l.length) ∧ (∀ k d, l[k]? = some d → k < i → d.start < t) ∧ (∀ k d, l[k]? = some d → j ≤ k → t ≤ d.start) ∧ zz = j - i) _ ⟨_, rfl, 0, l.length, rfl, rfl, rfl, rfl, rfl, rfl, hS, (⟨Nat.zero_le _, Nat.le_refl _⟩), (fun k d _ h => absurd h (Nat.not_lt_zero k)), (fun k d h h2 => by rw [List.getElem?_eq_none h2] at h; cases h), rfl⟩ ?_
 clear hS
 rintro f w _ ⟨i, j, h0, h1, h2, h8, h9, h10, hS, hij, hlo, hhi, rfl⟩
 refine seq <| seq <| region <| sv (yMove h9) <| sv (yMove h10) <| sv (yLss rfl rfl) <| nil <| cwQ ?_
 refine cond rfl (fun c17 => ?_) (fun c17 => ?_)
 ·
  simp only [BS, ne_eq] at c17
  refine skip <| cwQ <| block <| seq <| region <| sv (yMove h9) <| sv (yMove h10) <| sv (yAdd rfl rfl ⟨by omega, by omega⟩) <| sv (yToU rfl Tryz.underlying3 Tryz.underlying218 ⟨by omega, by omega⟩) ?_
  refine sv (yShr1 rfl rfl) <| sv (Y.to (yToI rfl Tryz.underlying218 Tryz.underlying3 ⟨by omega, by omega⟩) (show Value.int .i64 (((i : Int) + (j : Int)) / 2) = .int .i64 (((i + j) / 2 : Nat) : Int) by congr 1)) <| sv (yAsg rfl) <| nil <| cwQ <| seq <| region ?_
  obtain ⟨d, hx, hd⟩ := drop_of (l := l) (k := (i + j) / 2) (by omega)
  obtain ⟨b, o, cs, ha, hlen, hcs, hR⟩ := hel ((i + j) / 2) (by omega)
  obtain rfl : d = l[(i + j) / 2] := (List.getElem?_eq_some_iff.1 hx).2.symm
  generalize l[(i + j) / 2] = d at hx hd hR
  obtain ⟨rfl, hd1, hd2, hd3⟩ := hR
  refine sv (yMove h2) <| sv (yMove h0) <| sv (yMove rfl) <| sv (yIxa rfl ha rfl Tryz.runUnderlying65 Tryz.sizeOf205 (by omega) (by omega)) <| sv (yLdA rfl Tryz.isAgg205 Tryz.sizeOf205 (hcs.ext hS.ext) rfl) <| sv (yMove h1) ?_
  refine scallf rfl Tryz.call203 (.cons rfl (.cons rfl .nil)) c_datum1 ?_
  rintro _ w ⟨rfl, hE⟩; replace hS := hS.step hE; clear hE
  refine sv (yLss rfl rfl) <| nil <| cwQ ?_
  refine cond rfl (fun c31 => ?_) (fun c31 => ?_)
  ·
   simp only [BS, ne_eq, cmpI_lt] at c31
   refine region <| sv (yMove rfl) <| sv (yAdd rfl rfl ⟨by omega, by omega⟩) <| sv (yAsg rfl) <| nil ?_
   exact ⟨_, _, rfl, ⟨(i + j) / 2 + 1, j, h0, h1, h2, h8, rfl, h10, hS, (⟨by omega, by omega⟩), (fun k x hk hkm => by have := asc_le hp hk hx (by omega); omega), (hhi), rfl⟩, by omega⟩
  ·
   simp only [BS, ne_eq, cmpI_lt] at c31
   refine region <| sv (yMove rfl) <| sv (yAsg rfl) <| nil ?_
   exact ⟨_, _, rfl, ⟨i, (i + j) / 2, h0, h1, h2, h8, h9, rfl, hS, (⟨by omega, by omega⟩), (hlo), (fun k x hk hkm => by have := asc_le hp hx hk (by omega); omega), rfl⟩, by omega⟩
 ·
  simp only [BS, ne_eq] at c17
  refine exit <| cwQ <| seq <| region ?_
  obtain rfl : i = j := by omega
  obtain ⟨b, o, hk⟩ : ∃ b o, i < l.length → a = some ⟨b, o, none⟩ ∧ Cells w0 b (o + i * 3) (datumC (l.getD i ⟨0, ⟨0, 0⟩⟩)) := by
   by_cases hi : i < l.length
   ·
    obtain ⟨b, o, cs, ha, hlen, hcs, hR⟩ := hel i hi
    exact ⟨b, o, fun _ => ⟨ha, by rw [show l.getD i ⟨0, ⟨0, 0⟩⟩ = l[i] by simp [hi], ← hR.1]; exact hcs⟩⟩
   ·
    exact ⟨0, 0, fun h => absurd h hi⟩
  refine sv (yMove h9) <| sv (yMove h9) <| sv (yMove h8) <| sv (yLss rfl rfl) <| sv (yMove rfl) ?_
  refine sg rfl rfl rfl (fun g => (yMove h2)) (fun v40 g40 => ?_)
  refine sg rfl rfl rfl (fun g => (yMove h0)) (fun v41 g41 => ?_)
  refine sg rfl rfl rfl (fun g => (yMove h9)) (fun v42 g42 => ?_)
  refine sg rfl rfl rfl (fun g => (yIxa (g41.1 g) (hk (by have := of_decide_eq_true g; omega)).1 (g42.1 g) Tryz.runUnderlying65 Tryz.sizeOf205 (by omega) (of_decide_eq_true g))) (fun v43 g43 => ?_)
  refine sg rfl rfl rfl (fun g => (yLdA (g43.1 g) Tryz.isAgg205 Tryz.sizeOf205 ((hk (by have := of_decide_eq_true g; omega)).2.ext hS.ext) rfl)) (fun v44 g44 => ?_)
  refine sg rfl rfl rfl (fun g => (yMove h1)) (fun v45 g45 => ?_)
  refine sgcf hS rfl rfl rfl (fun g => (g40.1 g)) Tryz.call203 (fun g => (.cons (g44.1 g) (.cons (g45.1 g) .nil))) (fun g => c_datum1) ?_; clear hS; intro v46 w hS g46
  refine sg rfl rfl rfl (fun g => (yEql (g46.1 g) rfl)) (fun v47 g47 => ?_)
  refine sv (yAnd rfl (fun hB => (g47.1 hB)) rfl) <| sv (yAsg rfl) <| sv (yAsg rfl) <| nil <| cwQ <| wp_ret <| retQ (res2 rfl rfl rfl) ?_
  refine ⟨i, _, rfl, ⟨hij.2, hlo, hhi, ?_⟩, hS.ext⟩
  simp only [Bool.and_eq_true, decide_eq_true_eq, cmpI_eq]
  constructor
  ·
   rintro ⟨h1, h2⟩
   have h1 : i < l.length := by omega
   exact ⟨l[i], by simp [h1], by simpa [h1] using h2⟩
  ·
   rintro ⟨d, h1, h2⟩
   have h3 := (List.getElem?_eq_some_iff.1 h1).1
   refine ⟨by omega, ?_⟩
   rw [List.getD_eq_getElem?_getD, h1]; exact h2
end Go.Proofs.YtgidbailiababaaGreatDoor

/- part Sk5 -/
namespace Go.Proofs.YtgidbailiababaaGreatDoor
open Go Bx
theorem c_datum {g : Gauge} {r : Reading} {cs : List Value} {w0 : World} (hg : RGauge w0 cs g) (hok : GaugeOk g) (hr : 0 ≤ r.tick) : CV Tryz.prog 186 #[.agg cs.toArray, .agg (readC r).toArray] w0 (.int .i64 (datI g.datums r.tick : Nat)) := by
 obtain ⟨dv, rv, rfl, hnm, hge, hgr, hsd, hsr⟩ := id hg
 obtain ⟨a, cap, rfl, hcap, hmx, hel⟩ := id hsd
 obtain ⟨a2, cap2, rfl, hcap2, hmx2, hel2⟩ := id hsr
 have hc := cntD_pos hok.len.1 hok.first hr
 have hl8 := hok.len.2
 refine enter Tryz.func186 rfl Tryz.ntmps186 rfl ?_
 have hS := St.start w0
 refine seq <| region ?_
 refine sbox hS rfl rfl ?_; clear hS; intro b2 w hS
 refine sbox hS rfl rfl ?_; clear hS; intro b3 w hS
 refine sv (yAsg rfl) <| nil <| cwQ <| seq <| region <| sv (fa68_3 rfl) <| sv (yLdB rfl Tryz.isAgg65 (hS.at _) rfl) <| sv (fa70_0 rfl) <| sv (yLdB rfl Tryz.isAgg3 (hS.at _) rfl) ?_
 refine scall Tryz.call202 (.cons rfl (.cons rfl (.cons rfl .nil))) (c_SearchDatum (hsd.ext RDatum.stays hS.ext) hok.asc (by omega)) ?_
 rintro _ w ⟨i, is, rfl, hse, hE⟩; replace hS := hS.step hE; clear hE; have hse1 := hse.1
 refine sv (yMove rfl) <| sv (yExt rfl rfl) <| sv (yExt rfl rfl) <| sv (yAsg rfl) <| sv (yAsg rfl) <| nil <| cwQ <| seq <| seq ?_
 refine region <| sv (yMove rfl) <| nil <| cwQ ?_
 refine cond rfl (fun c15 => ?_) (fun c15 => ?_)
 ·
  refine seq <| region <| sv (yMove rfl) <| sv (yAsg rfl) <| nil <| cwQ ?_
  have hfin := searchD_datI hse hok.asc hc
  rw [if_pos c15] at hfin
  refine wp_ret (thenR ?_)
  exact retV (res1 rfl (eqI hfin.symm)) hS.ext
 ·
  refine skip <| cwQ <| seq <| region <| sv (yMove rfl) <| sv (ySub rfl rfl ⟨by omega, by omega⟩) <| sv (yAsg rfl) <| nil <| cwQ ?_
  have hfin := searchD_datI hse hok.asc hc
  rw [if_neg (by rw [c15]; decide)] at hfin
  refine wp_ret ?_
  exact retV (res1 rfl (eqI hfin.symm)) hS.ext
theorem c_around {v e : Int} {s : Span} {w0 : World} (hv : Bd v (-100000) 100000) (he : Bd e 0 2000000000) (hs : Bd s.lo (-100000) 100000 ∧ Bd s.hi (-100000) 100000) : CV Tryz.prog 185 #[.int .i64 v, .int .i64 e, .agg (spanC s).toArray] w0 (.agg (spanC (around v e s)).toArray) := by
 refine enter Tryz.func185 rfl Tryz.ntmps185 rfl ?_
 have hS := St.start w0
 refine seq <| region ?_
 refine sbox hS rfl rfl ?_; clear hS; intro b5 w hS
 refine salloc hS Tryz.zeroValue74 rfl ?_; clear hS; intro b6 w hS
 refine nil <| cwQ <| seq <| region <| sv (yMove rfl) <| sv (yMove rfl) <| sv (ySub rfl rfl ⟨by omega, by omega⟩) <| sv (fa74_1 rfl) <| sv (yLdB rfl Tryz.isAgg3 (hS.at _) rfl) ?_
 refine sv (ySub rfl rfl ⟨by omega, by omega⟩) <| sv (yMove rfl) <| sv (yMove rfl) <| sv (yAdd rfl rfl ⟨by omega, by omega⟩) <| sv (fa74_0 rfl) <| sv (yLdB rfl Tryz.isAgg3 (hS.at _) rfl) <| sv (ySub rfl rfl ⟨by omega, by omega⟩) <| sv (yBuild Tryz.zeroValue74 rfl pl74 (.cons rfl rfl (.cons rfl rfl .nil)) rfl) ?_
 refine sst hS rfl rfl Tryz.sizeOf74 rfl rfl rfl rfl ?_; clear hS; intro w hS
 refine nil <| cwQ <| wp_ret ?_
 exact retV (resV1 rfl (rc rfl Tryz.isAgg74 Tryz.sizeOf74 (hS.at _) rfl rfl)) hS.ext
theorem c_empty {s : Span} {w0 : World} : CV Tryz.prog 187 #[.agg (spanC s).toArray] w0 (.bool (decide (s.hi < s.lo))) := by
 refine enter Tryz.func187 rfl Tryz.ntmps187 rfl ?_
 have hS := St.start w0
 refine seq <| region ?_
 refine sbox hS rfl rfl ?_; clear hS; intro b1 w hS
 refine sv (yAsg rfl) <| nil <| cwQ <| seq <| region <| sv (fa200_0 rfl) <| sv (fa74_0 rfl) <| sv (yLdB rfl Tryz.isAgg3 (hS.at _) rfl) <| sv (fa200_0 rfl) ?_
 refine sv (fa74_1 rfl) <| sv (yLdB rfl Tryz.isAgg3 (hS.at _) rfl) <| sv (yGtr rfl rfl) <| sv (yAsg rfl) <| nil <| cwQ <| wp_ret ?_
 exact retV (res1 rfl rfl) hS.ext
theorem c_whole {w0 : World} : CV Tryz.prog 183 #[] w0 (.agg (spanC ⟨-20000, 20000⟩).toArray) := by
 refine enter Tryz.func183 rfl Tryz.ntmps183 rfl ?_
 have hS := St.start w0
 refine seq <| region ?_
 refine salloc hS Tryz.zeroValue200 rfl ?_; clear hS; intro b0 w hS
 refine nil <| cwQ <| seq <| region <| sv (yBuild Tryz.zeroValue74 rfl pl74 (.cons rfl rfl (.cons rfl rfl .nil)) rfl) <| sv (yBuild Tryz.zeroValue200 rfl pl200 (.cons rfl rfl .nil) rfl) ?_
 refine sst hS rfl rfl Tryz.sizeOf200 rfl rfl rfl rfl ?_; clear hS; intro w hS
 refine nil <| cwQ <| wp_ret ?_
 exact retV (resV1 rfl (rc rfl Tryz.isAgg200 Tryz.sizeOf200 (hS.at _) rfl rfl)) hS.ext
theorem c_cut {b : Nat} {T : TypeId} {s x : Span} {w0 : World} (hb : w0.heap[b]? = some (.cells (spanC s).toArray T (0, 0))) : CE Tryz.prog 184 #[.pointer (some ⟨b, 0, none⟩), .agg (spanC x).toArray] w0 (fun v w' => v = .tuple #[] ∧ Put b (.cells (spanC (cutS s x)).toArray T (0, 0)) w0 w') := by
 refine enter Tryz.func184 rfl Tryz.ntmps184 rfl ?_
 have hS := StX.start1 (b := b) ⟨_, hb, rfl⟩
 refine seq <| region ?_
 refine sbox hS rfl rfl ?_; clear hS; intro b3 w hS
 refine nil <| cwQ ?_
 refine region_two mixed [0, 0, 0, 0, 0, 0, 1, 0, 2, 0, 0, 0, 2, 0, 1, 0, 2, 0, 0, 0, 0] 18 22 (fun w => StX [b] w0 w [blk b3 (spanC x) 74, blk b (spanC s) T]) (fun w => StX [b] w0 w [blk b3 (spanC x) 74]) (by kernel_rfl) (fun c a a' w h => by obtain ⟨_, v, hv, _⟩ := h; cases hv) hS (fun _ h => h) (fun _ h => h.sub (.cons_cons _ (List.nil_sublist _))) ?_
 clear hS; intro w hS
 refine hv0 (fun w => (yMove rfl)) <| hv0 (fun w => (yMove rfl)) <| hv0 (fun w => (yMove rfl)) <| hv0 (fun w => (yNil rfl)) <| hv0 (fun w => (fa200_0 rfl)) <| hv0 (fun w => (fa74_0 rfl)) <| hv1 (fun w hS => (yLdB rfl Tryz.isAgg3 (hS.at _) rfl)) <| hv0 (fun w => (fa74_0 rfl)) <| hv2 (fun w hS => (yLdB rfl Tryz.isAgg3 (hS.at _) rfl)) ?_
 refine hv0 (fun w => (yMax rfl rfl)) <| hv0 (fun w => (yMove rfl)) <| hv0 (fun w => (yNil rfl)) <| hv2 (fun w hS => (fa200_0 rfl)) <| hv0 (fun w => (fa74_1 rfl)) <| hv1 (fun w hS => (yLdB rfl Tryz.isAgg3 (hS.at _) rfl)) <| hv0 (fun w => (fa74_1 rfl)) <| hv2 (fun w hS => (yLdB rfl Tryz.isAgg3 (hS.at _) rfl)) <| hv0 (fun w => (yMin rfl rfl)) ?_
 refine hv0 (fun w => (yNil rfl)) <| hv0 (fun w => (fa200_0 rfl)) <| hv0 (fun w => (fa74_0 rfl)) <| hgnil ?_
 show wpR _ _ _ _ _ _ _ _ _ _ _ _
 refine r_step (i := 21) (is := []) (by kernel_rfl) ⟨?_, trivial⟩
 refine ⟨_, rfl, ?_⟩
 refine sst hS rfl rfl Tryz.sizeOf3 rfl rfl rfl rfl ?_; clear hS; intro w hS
 refine nil ?_
 refine ⟨⟨fun h => absurd h (by decide), fun _ _ => hS.sub (.cons_cons _ (List.nil_sublist _))⟩, ?_⟩
 show wpR _ _ _ _ _ _ _ _ _ _ _ _
 refine r_step (i := 22) (is := []) (by kernel_rfl) ⟨?_, trivial⟩
 refine ⟨_, rfl, ?_⟩
 refine sv (yNil rfl) <| nil ?_
 refine ⟨⟨fun _ h => h, fun _ h => h⟩, ?_⟩
 show wpR _ _ _ _ _ _ _ _ _ _ _ _
 refine r_step (i := 23) (is := []) (by kernel_rfl) ⟨?_, trivial⟩
 refine ⟨_, rfl, ?_⟩
 refine sv (fa200_0 rfl) <| nil ?_
 refine ⟨⟨fun _ h => h, fun _ h => h⟩, ?_⟩
 show wpR _ _ _ _ _ _ _ _ _ _ _ _
 refine r_step (i := 24) (is := []) (by kernel_rfl) ⟨?_, trivial⟩
 refine ⟨_, rfl, ?_⟩
 refine sv (fa74_1 rfl) <| nil ?_
 refine ⟨⟨fun _ h => h, fun _ h => h⟩, ?_⟩
 show wpR _ _ _ _ _ _ _ _ _ _ _ _
 refine r_step (i := 25) (is := []) (by kernel_rfl) ⟨?_, trivial⟩
 refine ⟨_, rfl, ?_⟩
 refine sst hS rfl rfl Tryz.sizeOf3 rfl rfl rfl rfl ?_; clear hS; intro w hS
 refine nil ?_
 refine ⟨⟨fun h => absurd h (by decide), fun h => absurd h (by decide)⟩, ?_⟩
 show wpR _ _ _ _ _ _ _ _ _ _ _ _
 refine r_end (by kernel_rfl) ?_
 show bodyPost _ _ _ .normal _ _
 refine retN (results_none rfl _ _ _) ?_
 exact ⟨rfl, hS.isPut⟩
set_option maxHeartbeats 1000000 in
theorem c_says {g : Gauge} {cs : List Value} {t now : Int} {w0 : World} (hg : RGauge w0 cs g) (hok : GaugeOk g) (ht : Bd t 0 200000) : CV Tryz.prog 172 #[.agg cs.toArray, .int .i64 t, .int .i64 now] w0 (.tuple #[.agg (spanC (saysG g t now).1).toArray, .int .i64 (saysG g t now).2]) := by
 obtain ⟨dv, rv, rfl, hnm, hge, hgr, hsd, hsr⟩ := id hg
 obtain ⟨a, cap, rfl, hcap, hmx, hel⟩ := id hsd
 obtain ⟨a2, cap2, rfl, hcap2, hmx2, hel2⟩ := id hsr
 have hrl := hok.rlen
 have hge := hok.err
 have hgr := hok.rate
 refine enter Tryz.func172 rfl Tryz.ntmps172 rfl ?_
 have hS := St.start w0
 refine seq <| region ?_
 refine sbox hS rfl rfl ?_; clear hS; intro b3 w hS
 refine salloc hS Tryz.zeroValue74 rfl ?_; clear hS; intro b6 w hS
 refine sv (yAsg rfl) <| nil <| cwQ <| seq <| region ?_
 refine scall Tryz.call183 .nil c_whole ?_
 rintro _ w ⟨rfl, hE⟩; replace hS := hS.step hE; clear hE
 refine salloc hS Tryz.zeroValue200 rfl ?_; clear hS; intro b8 w hS
 refine sst hS rfl rfl Tryz.sizeOf200 rfl rfl rfl rfl ?_; clear hS; intro w hS
 refine sv (yAsg rfl) <| nil <| cwQ <| seq <| seq <| region <| sv (fa68_4 rfl) <| sv (yLdB rfl Tryz.isAgg66 (hS.at _) rfl) <| sv (yLen rfl Tryz.underlying66) ?_
 refine sv (yMove rfl) <| nil <| cwQ <| block <| loop (fun f w zz => ∃ (k : Nat) (e : Int), f 1 = .int .i64 t ∧ f 2 = .int .i64 now ∧ f 3 = .pointer (some ⟨b3, 0, none⟩) ∧ f 6 = .pointer (some ⟨b6, 0, none⟩) ∧ f 8 = .pointer (some ⟨b8, 0, none⟩) ∧ f 9 = .int .i64 e ∧ f 15 = .slice a2 g.readings.length cap2 ∧ f 16 = .int .i64 (g.readings.length : Int) ∧ f 17 = .int .i64 (k : Int) ∧ StX [] w0 w [blk b8 (spanC (cuts g t (g.readings.take k))) 200, blk b6 [.int .i64 0, .int .i64 0] 74, blk b3 [.string g.name, .int .i64 g.err, .int .i64 g.rate, .slice a g.datums.length cap, .slice a2 g.readings.length cap2] 68] ∧ (k ≤ g.readings.length) ∧ (e = if k = 0 then 4 else 0) ∧ (∀ x ∈ g.readings.take k, x.tick ≤ now) ∧ zz = g.readings.length - k) _ ⟨_, rfl, 0, 4, rfl, rfl, rfl, rfl, rfl, rfl, rfl, rfl, rfl, hS, (Nat.zero_le _), (rfl), (fun x hx => by cases hx), rfl⟩ ?_
 clear hS
 rintro f w _ ⟨k, e, h1, h2, h3, h6, h8, h9, h15, h16, h17, hS, hk, he, hle, rfl⟩
 refine seq <| region <| sv (yLss h17 h16) <| nil <| cwQ <| seq ?_
 refine cond rfl (fun c18 => ?_) (fun c18 => ?_)
 ·
  simp only [BS, ne_eq] at c18
  refine skip <| cwQ <| seq <| block <| seq <| region ?_
  obtain ⟨r, hx, hd⟩ := drop_of (l := g.readings) (k := k) (by omega)
  obtain ⟨b, o, cs, ha, hlen, hcs, hR⟩ := hel2 (k) (by omega)
  obtain rfl : r = g.readings[k] := (List.getElem?_eq_some_iff.1 hx).2.symm
  generalize g.readings[k] = r at hx hd hR
  obtain ⟨rfl, hr1, hr2⟩ := hR
  refine sv (yIxa h15 ha h17 Tryz.runUnderlying66 Tryz.sizeOf70 (by omega) (by omega)) <| sv (yLdA rfl Tryz.isAgg70 Tryz.sizeOf70 (hcs.ext hS.ext) rfl) ?_
  refine salloc hS Tryz.zeroValue70 rfl ?_; clear hS; intro b11 w hS
  refine sst hS rfl rfl Tryz.sizeOf70 rfl rfl rfl rfl ?_; clear hS; intro w hS
  refine nil <| cwQ <| seq <| seq <| region <| sv (fa70_0 rfl) <| sv (yLdB rfl Tryz.isAgg3 (hS.at _) rfl) <| sv (yMove h2) <| sv (yGtr rfl rfl) ?_
  refine nil <| cwQ ?_
  refine cond rfl (fun c24 => ?_) (fun c24 => ?_)
  ·
   simp only [BS, ne_eq] at c24
   have hK := known_stop hok.rasc hx hle c24
   refine exit <| cwQ <| seq <| block <| seq <| region <| sv (yMove h9) <| sv (yNeq rfl rfl) <| sv (yAsg rfl) ?_
   refine nil <| cwQ ?_
   refine cond rfl (fun c54 => ?_) (fun c54 => ?_)
   ·
    simp only [BS, ne_eq] at c54
    refine seq <| region <| sv (yBuild Tryz.zeroValue74 rfl pl74 .nil rfl) <| sv (yMove h9) ?_
    refine sst hS h6 rfl Tryz.sizeOf74 rfl rfl rfl rfl ?_; clear hS; intro w hS
    refine sv (yAsg rfl) <| nil <| cwQ ?_
    have hk0 : k = 0 := Decidable.byContradiction fun h => c54 (by rw [he, if_neg h])
    subst hk0
    have hfin := saysG_none (t := t) hK
    refine wp_ret (blockR (thenR ?_))
    exact retV (resV2 rfl (rc h6 Tryz.isAgg74 Tryz.sizeOf74 (hS.at _) (by rw [hfin]; rfl) rfl) (rt (eqI (by rw [hfin, he]; rfl)))) hS.ext
   ·
    simp only [BS, ne_eq] at c54
    refine seq <| region <| sv (yLdBA h8 Tryz.isAgg200 Tryz.sizeOf200 (hS.at _) rfl rfl) ?_
    refine scall Tryz.call187 (.cons rfl .nil) c_empty ?_
    rintro _ w ⟨rfl, hE⟩; replace hS := hS.step hE; clear hE
    refine sv (yAsg rfl) <| nil <| cwQ ?_
    refine cond rfl (fun c59 => ?_) (fun c59 => ?_)
    ·
     simp only [BS, ne_eq] at c59
     refine seq <| region <| sv (yBuild Tryz.zeroValue74 rfl pl74 .nil rfl) ?_
     refine sst hS h6 rfl Tryz.sizeOf74 rfl rfl rfl rfl ?_; clear hS; intro w hS
     refine sv (yAsg rfl) <| nil <| cwQ ?_
     have hk0 : k ≠ 0 := fun h => by rw [he, if_pos h] at c54; exact absurd c54 (by decide)
     have hfin := saysG_down (t := t) hK (fun h => hk0 ((take_nil_iff hk).1 h)) c59
     refine wp_ret (blockR (thenR ?_))
     exact retV (resV2 rfl (rc h6 Tryz.isAgg74 Tryz.sizeOf74 (hS.at _) (by rw [hfin]; rfl) rfl) (rt (eqI (by rw [hfin])))) hS.ext
    ·
     simp only [BS, ne_eq] at c59
     refine skip <| cwQ <| seq <| region <| sv (fa200_0 h8) <| sv (yLdBA rfl Tryz.isAgg74 Tryz.sizeOf74 (hS.at _) rfl rfl) ?_
     refine sst hS h6 rfl Tryz.sizeOf74 rfl rfl rfl rfl ?_; clear hS; intro w hS
     refine sv (yAsg rfl) <| nil <| cwQ ?_
     have hk0 : k ≠ 0 := fun h => by rw [he, if_pos h] at c54; exact absurd c54 (by decide)
     have hfin := saysG_ok (t := t) hK (fun h => hk0 ((take_nil_iff hk).1 h)) c59
     refine wp_ret ?_
     exact retV (resV2 rfl (rc h6 Tryz.isAgg74 Tryz.sizeOf74 (hS.at _) (by rw [hfin]; rfl) rfl) (rt (eqI (by rw [hfin])))) hS.ext
  ·
   simp only [BS, ne_eq] at c24
   have hro := hok.reads r (List.mem_of_getElem? hx)
   have hrt := hro.tick
   have hrv := hro.value
   have hfb := farR_bd hok ht hro
   have hmb : Bd (g.rate * max (t - r.tick) (r.tick - t)) 0 1000000000 := hfb
   refine skip <| cwQ <| seq <| region <| sv (fa68_2 h3) <| sv (yLdB rfl Tryz.isAgg3 (hS.at _) rfl) <| sv (yMove h1) <| sv (fa70_0 rfl) <| sv (yLdB rfl Tryz.isAgg3 (hS.at _) rfl) ?_
   refine sv (ySub rfl rfl ⟨by omega, by omega⟩) <| sv (fa70_0 rfl) <| sv (yLdB rfl Tryz.isAgg3 (hS.at _) rfl) <| sv (yMove h1) <| sv (ySub rfl rfl ⟨by omega, by omega⟩) <| sv (yMax rfl rfl) <| sv (yMul rfl rfl ⟨by omega, by omega⟩) <| sv (yAsg rfl) <| nil ?_
   refine cwQ <| seq <| region_tail mixed 15 (by kernel_rfl) hS ?_
   obtain ⟨d, hxd, hds, hdok⟩ := datum_at hok hro.tick.1
   have hdl := datI_lt hok hro.tick.1
   obtain ⟨b1, o1, cs1, ha1, hlen1, hcs1, hR1⟩ := hel _ hdl
   obtain rfl : d = g.datums[datI g.datums r.tick] := (List.getElem?_eq_some_iff.1 hxd).2.symm
   generalize g.datums[datI g.datums r.tick] = d at hR1 hds hdok
   obtain ⟨rfl, _⟩ := hR1
   have hdb := hdok.shift
   refine qv (fun w hS => (fa70_1 rfl)) <| qv (fun w hS => (yLdB rfl Tryz.isAgg3 (hS.at _) rfl)) <| qv (fun w hS => (fa68_1 h3)) <| qv (fun w hS => (yLdB rfl Tryz.isAgg3 (hS.at _) rfl)) <| qv (fun w hS => (yMove rfl)) <| qv (fun w hS => (yAdd rfl rfl ⟨by omega, by omega⟩)) <| qv (fun w hS => (fa68_3 h3)) <| qv (fun w hS => (yLdB rfl Tryz.isAgg65 (hS.at _) rfl)) <| qv (fun w hS => (yLdBA h3 Tryz.isAgg68 Tryz.sizeOf68 (hS.at _) rfl rfl)) ?_
   refine qv (fun w hS => (yLdBA rfl Tryz.isAgg70 Tryz.sizeOf70 (hS.at _) rfl rfl)) <| qcall Tryz.call186 (.cons rfl (.cons rfl .nil)) (fun w hS => (c_datum (r := r) (hg.ext hS.ext) hok hro.tick.1)) <| qv (fun w hS => (yIxa rfl ha1 rfl Tryz.runUnderlying65 Tryz.sizeOf205 (by omega) (by omega))) <| qv (fun w hS => (fa205_1 rfl)) <| qv (fun w hS => (yLdA rfl Tryz.isAgg74 Tryz.sizeOf74 ((hcs1.mid (xs := spanC d.shift) 1 rfl).ext hS.ext) rfl)) <| qcall Tryz.call185 (.cons rfl (.cons rfl (.cons rfl .nil))) (fun w hS => (c_around (s := d.shift) ⟨by omega, by omega⟩ ⟨by omega, by omega⟩ ⟨⟨by omega, by omega⟩, ⟨by omega, by omega⟩⟩)) ?_
   clear hS; refine qtl (fun w hS => ?_)
   refine scall Tryz.call184 (.cons h8 (.cons rfl .nil)) (c_cut (hS.at b8)) ?_; rintro _ w ⟨rfl, hput⟩; replace hS := hS.put hput; clear hput; rw [hds] at hS
   refine nil <| cwQ <| region <| sv (yAsg rfl) <| nil <| cwQ <| region <| sv (yAdd h17 rfl ⟨by omega, by omega⟩) <| sv (yMove rfl) ?_
   refine nil ?_
   exact ⟨_, _, rfl, ⟨k + 1, 0, h1, h2, h3, h6, h8, rfl, h15, h16, rfl, (by rw [take_snoc hx, cuts_snoc]; exact hS.sub (.cons _ lrQ)), (by omega), (rfl), (fun x hx' => by rw [take_snoc hx] at hx'; rcases List.mem_append.1 hx' with h | h; exact hle x h; rw [List.mem_singleton.1 h]; omega), rfl⟩, by omega⟩
 ·
  simp only [BS, ne_eq] at c18
  have hK : known g.readings now = g.readings.take k := by rw [List.take_of_length_le (by omega)] at hle ⊢; exact known_all hle
  refine exit <| cwQ <| seq <| block <| seq <| region <| sv (yMove h9) <| sv (yNeq rfl rfl) <| sv (yAsg rfl) ?_
  refine nil <| cwQ ?_
  refine cond rfl (fun c54 => ?_) (fun c54 => ?_)
  ·
   simp only [BS, ne_eq] at c54
   refine seq <| region <| sv (yBuild Tryz.zeroValue74 rfl pl74 .nil rfl) <| sv (yMove h9) ?_
   refine sst hS h6 rfl Tryz.sizeOf74 rfl rfl rfl rfl ?_; clear hS; intro w hS
   refine sv (yAsg rfl) <| nil <| cwQ ?_
   have hk0 : k = 0 := Decidable.byContradiction fun h => c54 (by rw [he, if_neg h])
   subst hk0
   have hfin := saysG_none (t := t) hK
   refine wp_ret (blockR (thenR ?_))
   exact retV (resV2 rfl (rc h6 Tryz.isAgg74 Tryz.sizeOf74 (hS.at _) (by rw [hfin]; rfl) rfl) (rt (eqI (by rw [hfin, he]; rfl)))) hS.ext
  ·
   simp only [BS, ne_eq] at c54
   refine seq <| region <| sv (yLdBA h8 Tryz.isAgg200 Tryz.sizeOf200 (hS.at _) rfl rfl) ?_
   refine scall Tryz.call187 (.cons rfl .nil) c_empty ?_
   rintro _ w ⟨rfl, hE⟩; replace hS := hS.step hE; clear hE
   refine sv (yAsg rfl) <| nil <| cwQ ?_
   refine cond rfl (fun c59 => ?_) (fun c59 => ?_)
   ·
    simp only [BS, ne_eq] at c59
    refine seq <| region <| sv (yBuild Tryz.zeroValue74 rfl pl74 .nil rfl) ?_
    refine sst hS h6 rfl Tryz.sizeOf74 rfl rfl rfl rfl ?_; clear hS; intro w hS
    refine sv (yAsg rfl) <| nil <| cwQ ?_
    have hk0 : k ≠ 0 := fun h => by rw [he, if_pos h] at c54; exact absurd c54 (by decide)
    have hfin := saysG_down (t := t) hK (fun h => hk0 ((take_nil_iff hk).1 h)) c59
    refine wp_ret (blockR (thenR ?_))
    exact retV (resV2 rfl (rc h6 Tryz.isAgg74 Tryz.sizeOf74 (hS.at _) (by rw [hfin]; rfl) rfl) (rt (eqI (by rw [hfin])))) hS.ext
   ·
    simp only [BS, ne_eq] at c59
    refine skip <| cwQ <| seq <| region <| sv (fa200_0 h8) <| sv (yLdBA rfl Tryz.isAgg74 Tryz.sizeOf74 (hS.at _) rfl rfl) ?_
    refine sst hS h6 rfl Tryz.sizeOf74 rfl rfl rfl rfl ?_; clear hS; intro w hS
    refine sv (yAsg rfl) <| nil <| cwQ ?_
    have hk0 : k ≠ 0 := fun h => by rw [he, if_pos h] at c54; exact absurd c54 (by decide)
    have hfin := saysG_ok (t := t) hK (fun h => hk0 ((take_nil_iff hk).1 h)) c59
    refine wp_ret ?_
    exact retV (resV2 rfl (rc h6 Tryz.isAgg74 Tryz.sizeOf74 (hS.at _) (by rw [hfin]; rfl) rfl) (rt (eqI (by rw [hfin])))) hS.ext
end Go.Proofs.YtgidbailiababaaGreatDoor

/- part Sk8 -/
namespace Go.Proofs.YtgidbailiababaaGreatDoor
open Go Bx
set_option maxHeartbeats 1000000 in
theorem c_gauges {l : List Gauge} {v : Value} {t now : Int} {w0 : World} (hl : Sl w0 5 RGauge v l) (ht : I64 t) (hn : I64 now) : CV Tryz.prog 71 #[v, .int .i64 t, .int .i64 now] w0 (.int .i64 (gaugesE l t now)) := by
 obtain ⟨a, cap, rfl, hcap, hmx, hel⟩ := id hl
 refine enter Tryz.func71 rfl Tryz.ntmps71 rfl ?_
 have hS := St.start w0
 refine seq <| region <| sv (yAsg rfl) <| nil <| cwQ <| seq <| seq <| region <| sv (yMove rfl) ?_
 refine sv (yLen rfl Tryz.underlying25) <| sv (yGtr rfl rfl) <| nil <| cwQ ?_
 refine cond rfl (fun c15 => ?_) (fun c15 => ?_)
 ·
  simp only [BS, ne_eq] at c15
  refine seq <| region <| sv (yAsg rfl) <| nil <| cwQ ?_
  have hfin : gaugesE l t now = 3 := by unfold gaugesE; rw [if_pos c15]
  refine wp_ret (thenR ?_)
  exact retV (res1 rfl (eqI hfin)) hS.ext
 ·
  simp only [BS, ne_eq] at c15
  refine skip <| cwQ <| seq <| region ?_
  refine smkmap Value.string hS ?_; clear hS; intro b16 w hS
  refine sv (yAsg rfl) <| nil <| cwQ <| seq <| seq <| region <| sv (yMove rfl) <| sv (yLen rfl Tryz.underlying25) <| sv (yMove rfl) ?_
  refine nil <| cwQ <| block <| loop (fun f w zz => ∃ (k : Nat), f 0 = .slice a l.length cap ∧ f 1 = .int .i64 t ∧ f 2 = .int .i64 now ∧ f 7 = .map (some b16) ∧ f 17 = .slice a l.length cap ∧ f 18 = .int .i64 (l.length : Int) ∧ f 19 = .int .i64 (k : Int) ∧ StX [] w0 w [mapI b16 Value.string (seenM (uniq (namesG (l.take k))))] ∧ (k ≤ l.length) ∧ (gErrs l = gErrs (l.drop k)) ∧ zz = l.length - k) _ ⟨_, rfl, 0, rfl, rfl, rfl, rfl, rfl, rfl, rfl, hS, (Nat.zero_le _), (rfl), rfl⟩ ?_
  clear hS
  rintro f w _ ⟨k, h0, h1, h2, h7, h17, h18, h19, hS, hk, hI, rfl⟩
  refine seq <| region <| sv (yLss h19 h18) <| nil <| cwQ <| seq ?_
  refine cond rfl (fun c20 => ?_) (fun c20 => ?_)
  ·
   simp only [BS, ne_eq] at c20
   refine skip <| cwQ <| seq <| block <| seq <| region ?_
   obtain ⟨g, hx, hd⟩ := drop_of (l := l) (k := k) (by omega)
   obtain ⟨b, o, cs, ha, hlen, hcs, hR⟩ := hel (k) (by omega)
   obtain rfl : g = l[k] := (List.getElem?_eq_some_iff.1 hx).2.symm
   generalize l[k] = g at hx hd hR
   have hg := hR
   obtain ⟨dv, rv, hcse, hnm, hge, hgr, hsd, hsr⟩ := id hg
   subst hcse
   obtain ⟨a1, cap1, rfl, hcap1, hmx1, hel1⟩ := id hsd
   obtain ⟨a2, cap2, rfl, hcap2, hmx2, hel2⟩ := id hsr
   refine sv (yIxa h17 ha h19 Tryz.runUnderlying25 Tryz.sizeOf68 (by omega) (by omega)) <| sv (yLdA rfl Tryz.isAgg68 Tryz.sizeOf68 (hcs.ext hS.ext) rfl) ?_
   refine salloc hS Tryz.zeroValue68 rfl ?_; clear hS; intro b9 w hS
   refine sst hS rfl rfl Tryz.sizeOf68 rfl rfl rfl rfl ?_; clear hS; intro w hS
   refine nil <| cwQ <| seq <| seq <| region <| sv (yLdBA rfl Tryz.isAgg68 Tryz.sizeOf68 (hS.at _) rfl rfl) ?_
   refine scall Tryz.call101 (.cons rfl .nil) (c_CheckGauge (hg.ext hS.ext)) ?_
   rintro _ w ⟨rfl, hE⟩; replace hS := hS.step hE; clear hE
   refine sv (yMove rfl) <| sv (yExt rfl rfl) <| sv (yExt rfl rfl) <| sv (yExt rfl rfl) <| sv (yAsg rfl) <| sv (yAsg rfl) <| sv (yAsg rfl) <| nil <| cwQ ?_
   refine seq <| region <| sv (yMove rfl) <| sv (yNeq rfl rfl) <| nil <| cwQ ?_
   refine cond rfl (fun c30 => ?_) (fun c30 => ?_)
   ·
    simp only [BS, ne_eq] at c30
    refine seq <| region <| sv (yMove rfl) <| sv (yAsg rfl) <| nil <| cwQ ?_
    have hfin : gaugesE l t now = (checkG g).2.2 := by unfold gaugesE; rw [if_neg c15, if_pos (by rw [gErrs_bad hd hI c30]; exact c30), gErrs_bad hd hI c30]
    refine wp_ret (thenR (blockR (thenR (thenR (blockR (thenR ?_))))))
    exact retV (res1 rfl (eqI hfin)) hS.ext
   ·
    simp only [BS, ne_eq] at c30
    refine skip <| cwQ <| region <| sv (yMove h7) <| sv (fa68_0 rfl) <| sv (yLdB rfl Tryz.isAgg9 (hS.at _) rfl) ?_
    refine smapset Value.string hS rfl rfl rfl Tryz.runUnderlying153 (keyStr Tryz.underlying9) ?_; clear hS; intro w hS
    refine nil <| cwQ <| region <| sv (yAdd h19 rfl ⟨by omega, by omega⟩) <| sv (yMove rfl) <| nil ?_
    exact ⟨_, _, rfl, ⟨k + 1, h0, h1, h2, h7, h17, h18, rfl, (by rw [names_take hx, ← setM_uniq]; exact hS.sub (.cons _ lrQ)), (by omega), (gErrs_take hd hI c30), rfl⟩, by omega⟩
  ·
   simp only [BS, ne_eq] at c20
   obtain rfl : k = l.length := by omega
   rw [List.drop_length] at hI
   have hI0 : gErrs l = 0 := hI
   rw [List.take_length] at hS
   have hun := uniq_le (namesG l)
   rw [names_len] at hun
   refine exit <| cwQ <| seq <| seq <| region <| sv (yMove h7) <| sv (yLenM rfl Tryz.underlying153 (hS.is b16)) <| sv (yMove h0) <| sv (yLen rfl Tryz.underlying25) ?_
   refine sv (yLss rfl rfl) <| nil <| cwQ ?_
   refine cond rfl (fun c40 => ?_) (fun c40 => ?_)
   ·
    simp only [BS, ne_eq, seenM, List.length_map] at c40
    refine seq <| region <| sv (yAsg rfl) <| nil <| cwQ ?_
    have hfin : gaugesE l t now = 5 := by unfold gaugesE; rw [if_neg c15, if_neg (fun h => h hI0), if_pos (fun h => by have := hun.2.2 h; omega)]
    refine wp_ret (thenR ?_)
    exact retV (res1 rfl (eqI hfin)) hS.ext
   ·
    simp only [BS, ne_eq, seenM, List.length_map] at c40
    refine skip <| cwQ <| seq <| region <| sv (yMove h1) <| sv (yMove h2) ?_
    refine sbslice hS Tryz.underlying39 Tryz.sizeOf3 rfl Tryz.zeroValue3 rfl (.cons rfl rfl (.cons rfl rfl .nil)) rfl ?_; clear hS; intro b43 w hS
    refine scall Tryz.call132 (.cons rfl .nil) (c_ticks (l := [t, now]) (ints_sl (l := [t, now]) (hS.at b43) (by simp; exact ⟨ht, hn⟩) (Nat.le_of_ble_eq_true rfl))) ?_
    rintro _ w ⟨rfl, hE⟩; replace hS := hS.step hE; clear hE
    refine sv (yAsg rfl) <| nil <| cwQ ?_
    have hfin : gaugesE l t now = ticksE [t, now] := by unfold gaugesE; rw [if_neg c15, if_neg (fun h => h hI0), if_neg (fun h => h (hun.2.1 (by omega)))]
    refine wp_ret ?_
    exact retV (res1 rfl (eqI hfin)) hS.ext
end Go.Proofs.YtgidbailiababaaGreatDoor

/- part Sk9 -/
namespace Go.Proofs.YtgidbailiababaaGreatDoor
open Go Bx
theorem c_some {a n : Int} {w0 : World} : CV Tryz.prog 99 #[.int .i64 a, .int .i64 n] w0 (.int .i64 (someE a n)) := by
 refine enter Tryz.func99 rfl Tryz.ntmps99 rfl ?_
 have hS := St.start w0
 refine seq <| region <| sv (yAsg rfl) <| nil <| cwQ <| seq <| block <| seq <| region ?_
 refine sv (yMove rfl) ?_
 refine scall Tryz.call72 (.cons rfl (.cons rfl (.cons rfl .nil))) c_out ?_
 rintro _ w ⟨rfl, hE⟩; replace hS := hS.step hE; clear hE
 refine sv (yAsg rfl) <| nil <| cwQ ?_
 refine cond rfl (fun c5 => ?_) (fun c5 => ?_)
 ·
  refine seq <| region <| sv (yAsg rfl) <| nil <| cwQ ?_
  refine wp_ret (blockR (thenR ?_))
  exact retV (res1 rfl (eqI (by unfold someE; rw [if_pos c5]))) hS.ext
 ·
  refine seq <| region <| sv (yMove rfl) <| sv (yEql rfl rfl) <| sv (yAsg rfl) <| nil <| cwQ ?_
  refine cond rfl (fun c8 => ?_) (fun c8 => ?_)
  ·
   simp only [BS, ne_eq] at c8
   refine seq <| region <| sv (yAsg rfl) <| nil <| cwQ ?_
   refine wp_ret (blockR (thenR ?_))
   exact retV (res1 rfl (eqI (by unfold someE; rw [if_neg (by rw [c5]; decide), if_pos c8]))) hS.ext
  ·
   simp only [BS, ne_eq] at c8
   refine seq <| region <| sv (yMove rfl) ?_
   refine scall Tryz.call72 (.cons rfl (.cons rfl (.cons rfl .nil))) c_out ?_
   rintro _ w ⟨rfl, hE⟩; replace hS := hS.step hE; clear hE
   refine sv (yAsg rfl) <| nil <| cwQ ?_
   refine cond rfl (fun c11 => ?_) (fun c11 => ?_)
   ·
    refine seq <| region <| sv (yAsg rfl) <| nil <| cwQ ?_
    refine wp_ret (blockR (thenR ?_))
    exact retV (res1 rfl (eqI (by unfold someE; rw [if_neg (by rw [c5]; decide), if_neg c8, if_pos c11]))) hS.ext
   ·
    have h5 := outB_false.1 c5
    have h11 := outB_false.1 c11
    refine skip <| cwQ <| seq <| region <| sv (yMove rfl) <| sv (yMove rfl) <| sv (yAdd rfl rfl ⟨by omega, by omega⟩) <| sv (ySub rfl rfl ⟨by omega, by omega⟩) ?_
    refine sbslice hS Tryz.underlying39 Tryz.sizeOf3 rfl Tryz.zeroValue3 rfl (.cons rfl rfl .nil) rfl ?_; clear hS; intro b18 w hS
    refine scall Tryz.call132 (.cons rfl .nil) (c_ticks (l := [a + n - 1]) (ints_sl (l := [a + n - 1]) (hS.at b18) (by simp; exact ⟨by omega, by omega⟩) (Nat.le_of_ble_eq_true rfl))) ?_
    rintro _ w ⟨rfl, hE⟩; replace hS := hS.step hE; clear hE
    refine sv (yAsg rfl) <| nil <| cwQ <| wp_ret ?_
    exact retV (res1 rfl (eqI (by unfold someE; rw [if_neg (by rw [c5]; decide), if_neg c8, if_neg (by rw [c11]; decide)]))) hS.ext
theorem c_parts0 {c : Const} {a : Option Addr} {cap : Nat} {tick : Int} {w0 : World} (hok : ConstOk c) : CE Tryz.prog 155 #[.agg [.string c.name, .slice a c.heights.length cap, .int .i64 c.off, .int .i64 c.step, .int .i64 c.den, .int .i64 c.slack].toArray, .int .i64 tick] w0 (fun v w' => ∃ bp bc pv, v = .func (.func 181) #[] [.pointer (some ⟨bp, 0, none⟩), .pointer (some ⟨bc, 0, none⟩)].toArray ∧ St w0 w' [blk bp [.int .i64 pv] 3, blk bc [.string c.name, .slice a c.heights.length cap, .int .i64 c.off, .int .i64 c.step, .int .i64 c.den, .int .i64 c.slack] 196]) := by
 refine enter Tryz.func155 rfl Tryz.ntmps155 rfl ?_
 have hS := St.start w0
 have hcy := cyc_pos hok
 refine seq <| region ?_
 refine sbox hS rfl rfl ?_; clear hS; intro b2 w hS
 refine sv (yAsg rfl) <| nil <| cwQ <| seq ?_
 refine region_any (C := (fun w => StX [] w0 w [blk b2 [.string c.name, .slice a c.heights.length cap, .int .i64 c.off, .int .i64 c.step, .int .i64 c.den, .int .i64 c.slack] 196])) mixed 8 11 (by kernel_rfl) (fun c a a' w h => by obtain ⟨_, v, hv, _⟩ := h; cases hv) hS (fun _ h => h) ?_
 clear hS; intro w hS
 refine hv (fun w hS => (fa196_2 rfl)) <| hv (fun w hS => (yLdB rfl Tryz.isAgg3 (hS.at _) rfl)) <| hv (fun w hS => (fa196_3 rfl)) <| hv (fun w hS => (yLdB rfl Tryz.isAgg3 (hS.at _) rfl)) <| hv (fun w hS => (yMove rfl)) <| hv (fun w hS => (yMulW rfl rfl)) <| hv (fun w hS => (yAddW rfl rfl)) <| hv (fun w hS => (yLdBA rfl Tryz.isAgg196 Tryz.sizeOf196 (hS.at _) rfl rfl)) <| hnil ?_
 refine awQ ?_
 refine a_step (i := 8) (is := [10]) (by kernel_rfl) ⟨?_, ?_, trivial⟩
 ·
  refine ⟨_, rfl, ?_⟩
  refine scall Tryz.call153 (.cons rfl .nil) (c_cycle ⟨by omega, by omega⟩) ?_
  rintro _ w ⟨rfl, hE⟩; replace hS := hS.step hE; clear hE
  refine nil ?_
  refine ⟨fun _ => hS.sub lrQ, ?_⟩
  refine awQ ?_
  refine a_step (i := 9) (is := [10]) (by kernel_rfl) ⟨?_, ?_, trivial⟩
  ·
   refine ⟨_, rfl, ?_⟩
   refine sv (yRem rfl rfl (by omega)) <| nil ?_
   refine ⟨fun _ => hS.sub lrQ, ?_⟩
   refine awQ <| a1Q 10 (by kernel_rfl) rfl ?_
   refine salloc hS Tryz.zeroValue3 rfl ?_; clear hS; intro b5 w hS
   refine nil ?_
   refine ⟨fun _ => hS.sub (.cons _ lrQ), ?_⟩
   refine awQ <| a1Q 11 (by kernel_rfl) rfl ?_
   refine sst hS rfl rfl Tryz.sizeOf3 rfl rfl rfl rfl ?_; clear hS; intro w hS
   refine nil ?_
   refine ⟨fun h => absurd h (by decide), ?_⟩
   refine awQ <| a_end (by kernel_rfl) <| cwQ <| seq <| region <| sv (yFn (.cons rfl (.cons rfl .nil))) <| sv (yAsg rfl) <| nil <| cwQ ?_
   refine wp_ret <| retQ (res1 rfl rfl) ?_
   exact ⟨b5, b2, _, rfl, hS⟩
  ·
   refine ⟨_, rfl, ?_⟩
   refine salloc hS Tryz.zeroValue3 rfl ?_; clear hS; intro b5 w hS
   refine nil ?_
   refine ⟨fun _ => hS.sub (.cons _ lrQ), ?_⟩
   refine awQ <| a1Q 9 (by kernel_rfl) rfl <| sv (yRem rfl rfl (by omega)) <| nil ?_
   refine ⟨fun _ => hS.sub (.cons _ lrQ), ?_⟩
   refine awQ <| a1Q 11 (by kernel_rfl) rfl ?_
   refine sst hS rfl rfl Tryz.sizeOf3 rfl rfl rfl rfl ?_; clear hS; intro w hS
   refine nil ?_
   refine ⟨fun h => absurd h (by decide), ?_⟩
   refine awQ <| a_end (by kernel_rfl) <| cwQ <| seq <| region <| sv (yFn (.cons rfl (.cons rfl .nil))) <| sv (yAsg rfl) <| nil <| cwQ ?_
   refine wp_ret <| retQ (res1 rfl rfl) ?_
   exact ⟨b5, b2, _, rfl, hS⟩
 ·
  refine ⟨_, rfl, ?_⟩
  refine salloc hS Tryz.zeroValue3 rfl ?_; clear hS; intro b5 w hS
  refine nil ?_
  refine ⟨fun _ => hS.sub (.cons _ lrQ), ?_⟩
  refine awQ <| a1Q 8 (by kernel_rfl) rfl ?_
  refine scall Tryz.call153 (.cons rfl .nil) (c_cycle ⟨by omega, by omega⟩) ?_
  rintro _ w ⟨rfl, hE⟩; replace hS := hS.step hE; clear hE
  refine nil ?_
  refine ⟨fun _ => hS.sub (.cons _ lrQ), ?_⟩
  refine awQ <| a1Q 9 (by kernel_rfl) rfl <| sv (yRem rfl rfl (by omega)) <| nil ?_
  refine ⟨fun _ => hS.sub (.cons _ lrQ), ?_⟩
  refine awQ <| a1Q 11 (by kernel_rfl) rfl ?_
  refine sst hS rfl rfl Tryz.sizeOf3 rfl rfl rfl rfl ?_; clear hS; intro w hS
  refine nil ?_
  refine ⟨fun h => absurd h (by decide), ?_⟩
  refine awQ <| a_end (by kernel_rfl) <| cwQ <| seq <| region <| sv (yFn (.cons rfl (.cons rfl .nil))) <| sv (yAsg rfl) <| nil <| cwQ ?_
  refine wp_ret <| retQ (res1 rfl rfl) ?_
  exact ⟨b5, b2, _, rfl, hS⟩
set_option maxHeartbeats 1000000 in
theorem c_levels0 {t : Table} {cv : Value} {from_ : Int} {w0 : World} (hsl : Sl w0 6 RConst cv t.consts) (hok : TableOk t) : CE Tryz.prog 100 #[.agg [.int .i64 t.mean, cv].toArray, .int .i64 from_, .int .i64 0] w0 (fun v w' => v = .slice none 0 0 ∧ Ext w0 w') := by
 obtain ⟨a, cap, rfl, hcap, hmx, hel⟩ := hsl
 have hmean := hok.mean
 have hlen12 := hok.len
 refine enter Tryz.func100 rfl Tryz.ntmps100 rfl ?_
 have hS := St.start w0
 refine seq <| region ?_
 refine sbox hS rfl rfl ?_; clear hS; intro b3 w hS
 refine sv (yAsg rfl) <| nil <| cwQ <| seq <| region <| sv (yMove rfl) ?_
 refine smake (bytes := 16) (zs := [.int .i64 0, .int .i64 0]) (m := 0) hS rfl rfl Tryz.underlying198 ti200 rfl rfl rfl rfl rfl (by omega) (by omega) ?_; clear hS; intro b17 w hS
 refine sv (yAsg rfl) <| nil <| cwQ <| seq <| seq <| region <| sv (yMove rfl) <| sv (yLen rfl Tryz.underlying198) <| sv (yMove rfl) ?_
 refine nil <| cwQ <| block <| loop (fun f w zz => f 1 = .int .i64 from_ ∧ f 3 = .pointer (some ⟨b3, 0, none⟩) ∧ f 7 = .slice (some ⟨b17, 0, none⟩) 0 0 ∧ f 19 = .int .i64 0 ∧ f 20 = .int .i64 0 ∧ StX [] w0 w [blk b3 [.int .i64 t.mean, .slice a t.consts.length cap] 24] ∧ zz = 0) _ ⟨_, rfl, rfl, rfl, rfl, rfl, rfl, (hS.sub (.cons _ lrQ)), rfl⟩ ?_
 clear hS
 rintro f w _ ⟨h1, h3, h7, h19, h20, hS, rfl⟩
 refine seq <| region <| sv (yLss h20 h19) <| nil <| cwQ <| seq ?_
 refine cond rfl (fun c21 => ?_) (fun c21 => ?_)
 ·
  simp only [BS, ne_eq] at c21
  omega
 ·
  simp only [BS, ne_eq] at c21
  refine exit <| cwQ <| seq <| seq <| region <| sv (fa24_1 h3) <| sv (yLdB rfl Tryz.isAgg22 (hS.at _) rfl) <| sv (yLen rfl Tryz.underlying22) <| sv (yMove rfl) ?_
  refine nil <| cwQ <| block <| loop (fun f w zz => ∃ (k : Nat), f 1 = .int .i64 from_ ∧ f 7 = .slice (some ⟨b17, 0, none⟩) 0 0 ∧ f 34 = .slice a t.consts.length cap ∧ f 35 = .int .i64 (t.consts.length : Int) ∧ f 36 = .int .i64 (k : Int) ∧ StX [] w0 w [] ∧ (k ≤ t.consts.length) ∧ zz = t.consts.length - k) _ ⟨_, rfl, 0, h1, h7, rfl, rfl, rfl, (hS.sub (List.nil_sublist _)), (Nat.zero_le _), rfl⟩ ?_
  clear hS
  rintro f w _ ⟨k, h1, h7, h34, h35, h36, hS, hk, rfl⟩
  refine seq <| region <| sv (yLss h36 h35) <| nil <| cwQ <| seq ?_
  refine cond rfl (fun c37 => ?_) (fun c37 => ?_)
  ·
   simp only [BS, ne_eq] at c37
   refine skip <| cwQ <| seq <| block <| seq <| region ?_
   obtain ⟨c, hx, hd⟩ := drop_of (l := t.consts) (k := k) (by omega)
   obtain ⟨b, o, cs, ha, hlen, hcs, hR⟩ := hel (k) (by omega)
   obtain rfl : c = t.consts[k] := (List.getElem?_eq_some_iff.1 hx).2.symm
   generalize t.consts[k] = c at hx hd hR
   obtain ⟨hv, rfl, hn1, hsl1, _, _, _, _⟩ := hR
   have hcok : ConstOk c := hok.consts c (List.mem_of_getElem? hx)
   obtain ⟨a1, cap1, rfl, hq1, hq2, hq3⟩ := id hsl1
   refine sv (yIxa h34 ha h36 Tryz.runUnderlying22 Tryz.sizeOf196 (by omega) (by omega)) <| sv (yLdA rfl Tryz.isAgg196 Tryz.sizeOf196 (hcs.ext hS.ext) rfl) ?_
   refine salloc hS Tryz.zeroValue196 rfl ?_; clear hS; intro b10 w hS
   refine sst hS rfl rfl Tryz.sizeOf196 rfl rfl rfl rfl ?_; clear hS; intro w hS
   refine nil <| cwQ <| seq <| region <| sv (yLdBA rfl Tryz.isAgg196 Tryz.sizeOf196 (hS.at _) rfl rfl) <| sv (yMove h1) ?_
   refine scall Tryz.call155 (.cons rfl (.cons rfl .nil)) (c_parts0 hcok) ?_
   rintro _ w ⟨bp, bc, pv, rfl, hM⟩; replace hS := hS.call hM; clear hM
   refine sv (yAsg rfl) <| nil <| cwQ <| seq <| region <| sv (yMove h7) <| sv (yLen rfl Tryz.underlying198) <| sv (yMove rfl) <| nil ?_
   refine cwQ <| block <| loop (fun f w zz => f 1 = .int .i64 from_ ∧ f 7 = .slice (some ⟨b17, 0, none⟩) 0 0 ∧ f 34 = .slice a t.consts.length cap ∧ f 35 = .int .i64 (t.consts.length : Int) ∧ f 36 = .int .i64 (k : Int) ∧ f 44 = .int .i64 0 ∧ f 45 = .int .i64 0 ∧ StX [] w0 w [] ∧ zz = 0) _ ⟨_, rfl, h1, h7, h34, h35, h36, rfl, rfl, (hS.sub (List.nil_sublist _)), rfl⟩ ?_
   clear hS
   rintro f w _ ⟨h1, h7, h34, h35, h36, h44, h45, hS, rfl⟩
   refine seq <| region <| sv (yLss h45 h44) <| nil <| cwQ <| seq ?_
   refine cond rfl (fun c46 => ?_) (fun c46 => ?_)
   ·
    simp only [BS, ne_eq] at c46
    omega
   ·
    simp only [BS, ne_eq] at c46
    refine exit <| cwQ <| region <| sv (yAdd h36 rfl ⟨by omega, by omega⟩) <| sv (yMove rfl) <| nil ?_
    exact ⟨_, _, rfl, ⟨k + 1, h1, h7, h34, h35, rfl, (hS.sub (List.nil_sublist _)), (by omega), rfl⟩, by omega⟩
  ·
   simp only [BS, ne_eq] at c37
   refine exit <| cwQ <| seq <| region <| sv (yAsg rfl) <| nil <| cwQ <| seq <| seq ?_
   refine region <| sv (yMove h7) <| sv (yLen rfl Tryz.underlying198) <| sv (yMove rfl) <| nil <| cwQ <| block <| loop (fun f w zz => f 13 = .slice none 0 0 ∧ f 57 = .int .i64 0 ∧ f 58 = .int .i64 0 ∧ StX [] w0 w [] ∧ zz = 0) _ ⟨_, rfl, rfl, rfl, rfl, (hS.sub (List.nil_sublist _)), rfl⟩ ?_
   clear hS
   rintro f w _ ⟨h13, h57, h58, hS, rfl⟩
   refine seq <| region <| sv (yLss h58 h57) <| nil <| cwQ <| seq ?_
   refine cond rfl (fun c59 => ?_) (fun c59 => ?_)
   ·
    simp only [BS, ne_eq] at c59
    omega
   ·
    simp only [BS, ne_eq] at c59
    refine exit <| cwQ <| seq <| region <| sv (yMove h13) <| sv (yAsg rfl) <| nil <| cwQ <| wp_ret ?_
    refine retQ (res1 rfl rfl) ?_
    exact ⟨rfl, hS.ext⟩
end Go.Proofs.YtgidbailiababaaGreatDoor

/- part Sk10 -/
namespace Go.Proofs.YtgidbailiababaaGreatDoor
open Go Bx
theorem c_LevelsP {t : Table} {cs : List Value} {a n : Int} {w0 : World} (ht : RTable w0 cs t) (hn : n ≠ 0) : CE Tryz.prog 54 #[.agg cs.toArray, .int .i64 a, .int .i64 n] w0 (fun v w' => ∃ sv, v = .tuple #[sv, .int .i64 (levelsE t a n)] ∧ St w0 w' [rowI sv 74 2 (levelsF t a n).length ((levelsF t a n).flatMap spanC)]) := by
 obtain ⟨cv, rfl, hmean, hsl⟩ := id ht
 obtain ⟨aa, cap, rfl, hcap, hmx, hel⟩ := id hsl
 refine enter Tryz.func54 rfl Tryz.ntmps54 rfl ?_
 have hS := St.start w0
 refine seq <| region ?_
 refine sbox hS rfl rfl ?_; clear hS; intro b3 w hS
 refine sv (yAsg rfl) <| sv (yAsg rfl) <| nil <| cwQ <| seq <| region <| sv (yLdBA rfl Tryz.isAgg24 Tryz.sizeOf24 (hS.at _) rfl rfl) ?_
 refine scall Tryz.call98 (.cons rfl .nil) (c_Check (ht.ext hS.ext)) ?_
 rintro _ w ⟨rfl, hE⟩; replace hS := hS.step hE; clear hE
 refine sv (yMove rfl) <| sv (yExt rfl rfl) <| sv (yExt rfl rfl) <| sv (yAsg rfl) <| sv (yAsg rfl) <| nil <| cwQ <| seq <| seq ?_
 refine region <| sv (yMove rfl) <| sv (yEql rfl rfl) <| nil <| cwQ ?_
 refine cond rfl (fun c16 => ?_) (fun c16 => ?_)
 ·
  simp only [BS, ne_eq] at c16
  have hE := levelsE_good (a := a) (n := n) c16
  refine region <| sv (yMove rfl) <| sv (yMove rfl) ?_
  refine scall Tryz.call99 (.cons rfl (.cons rfl .nil)) c_some ?_
  rintro _ w ⟨rfl, hE⟩; replace hS := hS.step hE; clear hE
  refine sv (yAsg rfl) <| nil <| cwQ <| seq <| seq <| region <| sv (yMove rfl) <| sv (yNeq rfl rfl) <| nil ?_
  refine cwQ ?_
  refine cond rfl (fun c21 => ?_) (fun c21 => ?_)
  ·
   simp only [BS, ne_eq] at c21
   refine seq <| region <| sv (yMove rfl) <| sv (yAsg rfl) <| sv (yAsg rfl) <| nil <| cwQ ?_
   refine wp_ret (thenR ?_)
   refine retQ (res2 rfl rfl rfl) ?_
   refine ⟨.slice none 0 0, by rw [hE]; rfl, ?_⟩
   rw [levelsF_bad (by rw [hE]; exact c21)]
   exact (hS.sub (List.nil_sublist _)).nilrow 74 2
  ·
   simp only [BS, ne_eq] at c21
   have hok := tableOk_of c16
   have hz := hE.trans c21
   obtain ⟨_, hz2, hz3⟩ := levelsE_zero hz
   obtain ⟨m, rfl⟩ := Int.eq_ofNat_of_zero_le hz2.1
   refine skip <| cwQ <| seq <| region <| sv (yLdBA rfl Tryz.isAgg24 Tryz.sizeOf24 (hS.at _) rfl rfl) <| sv (yMove rfl) <| sv (yMove rfl) ?_
   refine scall Tryz.call100 (.cons rfl (.cons rfl (.cons rfl .nil))) (c_levels (n := m) (hsl.ext RConst.stays hS.ext) hok (hz3 hn).1 (by omega)) ?_
   rintro v w hM; replace hS := hS.call1 hM; clear hM
   refine sv (yAsg rfl) <| sv (yAsg rfl) <| nil <| cwQ <| wp_ret <| retQ (res2 rfl rfl rfl) ?_
   refine ⟨v, by rw [hz]; rfl, ?_⟩
   rw [levelsF_good hz, show (lvlsL t a (m : Int).toNat).length = m from lvlsL_len t a m]
   exact hS.sub (.cons_cons _ (List.nil_sublist _))
 ·
  simp only [BS, ne_eq] at c16
  have hE := levelsE_bad (a := a) (n := n) c16
  refine skip <| cwQ <| seq <| seq <| region <| sv (yMove rfl) <| sv (yNeq rfl rfl) <| nil <| cwQ ?_
  refine cond rfl (fun c21 => ?_) (fun c21 => ?_)
  ·
   simp only [BS, ne_eq] at c21
   refine seq <| region <| sv (yMove rfl) <| sv (yAsg rfl) <| sv (yAsg rfl) <| nil <| cwQ ?_
   refine wp_ret (thenR ?_)
   refine retQ (res2 rfl rfl rfl) ?_
   refine ⟨.slice none 0 0, by rw [hE]; rfl, ?_⟩
   rw [levelsF_bad (by rw [hE]; exact c21)]
   exact (hS.sub (List.nil_sublist _)).nilrow 74 2
  ·
   simp only [BS, ne_eq] at c21
   exact absurd c21 c16
theorem c_Levels0 {t : Table} {cs : List Value} {a n : Int} {w0 : World} (ht : RTable w0 cs t) : CE Tryz.prog 54 #[.agg cs.toArray, .int .i64 a, .int .i64 0] w0 (fun v w' => ∃ sv, v = .tuple #[sv, .int .i64 (levelsE t a 0)] ∧ St w0 w' [rowI sv 74 2 (levelsF t a 0).length ((levelsF t a 0).flatMap spanC)]) := by
 obtain ⟨cv, rfl, hmean, hsl⟩ := id ht
 obtain ⟨aa, cap, rfl, hcap, hmx, hel⟩ := id hsl
 refine enter Tryz.func54 rfl Tryz.ntmps54 rfl ?_
 have hS := St.start w0
 refine seq <| region ?_
 refine sbox hS rfl rfl ?_; clear hS; intro b3 w hS
 refine sv (yAsg rfl) <| sv (yAsg rfl) <| nil <| cwQ <| seq <| region <| sv (yLdBA rfl Tryz.isAgg24 Tryz.sizeOf24 (hS.at _) rfl rfl) ?_
 refine scall Tryz.call98 (.cons rfl .nil) (c_Check (ht.ext hS.ext)) ?_
 rintro _ w ⟨rfl, hE⟩; replace hS := hS.step hE; clear hE
 refine sv (yMove rfl) <| sv (yExt rfl rfl) <| sv (yExt rfl rfl) <| sv (yAsg rfl) <| sv (yAsg rfl) <| nil <| cwQ <| seq <| seq ?_
 refine region <| sv (yMove rfl) <| sv (yEql rfl rfl) <| nil <| cwQ ?_
 refine cond rfl (fun c16 => ?_) (fun c16 => ?_)
 ·
  simp only [BS, ne_eq] at c16
  have hE := levelsE_good (a := a) (n := 0) c16
  refine region <| sv (yMove rfl) <| sv (yMove rfl) ?_
  refine scall Tryz.call99 (.cons rfl (.cons rfl .nil)) c_some ?_
  rintro _ w ⟨rfl, hE⟩; replace hS := hS.step hE; clear hE
  refine sv (yAsg rfl) <| nil <| cwQ <| seq <| seq <| region <| sv (yMove rfl) <| sv (yNeq rfl rfl) <| nil ?_
  refine cwQ ?_
  refine cond rfl (fun c21 => ?_) (fun c21 => ?_)
  ·
   simp only [BS, ne_eq] at c21
   refine seq <| region <| sv (yMove rfl) <| sv (yAsg rfl) <| sv (yAsg rfl) <| nil <| cwQ ?_
   refine wp_ret (thenR ?_)
   refine retQ (res2 rfl rfl rfl) ?_
   refine ⟨.slice none 0 0, by rw [hE]; rfl, ?_⟩
   rw [levelsF_bad (by rw [hE]; exact c21)]
   exact (hS.sub (List.nil_sublist _)).nilrow 74 2
  ·
   simp only [BS, ne_eq] at c21
   have hok := tableOk_of c16
   have hz := hE.trans c21
   obtain ⟨_, hz2, hz3⟩ := levelsE_zero hz
   refine skip <| cwQ <| seq <| region <| sv (yLdBA rfl Tryz.isAgg24 Tryz.sizeOf24 (hS.at _) rfl rfl) <| sv (yMove rfl) <| sv (yMove rfl) ?_
   refine scall Tryz.call100 (.cons rfl (.cons rfl (.cons rfl .nil))) (c_levels0 (hsl.ext RConst.stays hS.ext) hok) ?_
   rintro _ w ⟨rfl, hE⟩; replace hS := hS.step hE; clear hE
   refine sv (yAsg rfl) <| sv (yAsg rfl) <| nil <| cwQ <| wp_ret <| retQ (res2 rfl rfl rfl) ?_
   refine ⟨.slice none 0 0, by rw [hz]; rfl, ?_⟩
   rw [levelsF_good hz]
   exact (hS.sub (List.nil_sublist _)).nilrow 74 2
 ·
  simp only [BS, ne_eq] at c16
  have hE := levelsE_bad (a := a) (n := 0) c16
  refine skip <| cwQ <| seq <| seq <| region <| sv (yMove rfl) <| sv (yNeq rfl rfl) <| nil <| cwQ ?_
  refine cond rfl (fun c21 => ?_) (fun c21 => ?_)
  ·
   simp only [BS, ne_eq] at c21
   refine seq <| region <| sv (yMove rfl) <| sv (yAsg rfl) <| sv (yAsg rfl) <| nil <| cwQ ?_
   refine wp_ret (thenR ?_)
   refine retQ (res2 rfl rfl rfl) ?_
   refine ⟨.slice none 0 0, by rw [hE]; rfl, ?_⟩
   rw [levelsF_bad (by rw [hE]; exact c21)]
   exact (hS.sub (List.nil_sublist _)).nilrow 74 2
  ·
   simp only [BS, ne_eq] at c21
   exact absurd c21 c16
theorem c_Levels {t : Table} {cs : List Value} {a n : Int} {w0 : World} (ht : RTable w0 cs t) : CE Tryz.prog 54 #[.agg cs.toArray, .int .i64 a, .int .i64 n] w0 (fun v w' => ∃ sv, v = .tuple #[sv, .int .i64 (levelsE t a n)] ∧ St w0 w' [rowI sv 74 2 (levelsF t a n).length ((levelsF t a n).flatMap spanC)]) := by
 by_cases hn : n = 0
 ·
  subst hn; exact c_Levels0 (n := 0) ht
 ·
  exact c_LevelsP ht hn
end Go.Proofs.YtgidbailiababaaGreatDoor

/- part Sk11 -/
namespace Go.Proofs.YtgidbailiababaaGreatDoor
open Go Bx
theorem c_speakers {a : Option Addr} {len cap : Nat} {tick now : Int} {w0 : World} : CE Tryz.prog 134 #[.slice a len cap, .int .i64 tick, .int .i64 now] w0 (fun v w' => ∃ p1 p2 p3, v = .func (.func 171) #[] [.pointer (some ⟨p1, 0, none⟩), .pointer (some ⟨p2, 0, none⟩), .pointer (some ⟨p3, 0, none⟩)].toArray ∧ St w0 w' [blk p3 [.int .i64 now] 3, blk p2 [.int .i64 tick] 3, blk p1 [.slice a len cap] 25]) := by
 refine enter Tryz.func134 rfl Tryz.ntmps134 rfl ?_
 have hS := St.start w0
 refine seq <| region ?_
 refine sbox hS rfl rfl ?_; clear hS; intro b3 w hS
 refine sbox hS rfl rfl ?_; clear hS; intro b4 w hS
 refine sbox hS rfl rfl ?_; clear hS; intro b5 w hS
 refine sv (yAsg rfl) <| nil <| cwQ <| seq <| region <| sv (yFn (.cons rfl (.cons rfl (.cons rfl .nil)))) <| sv (yAsg rfl) <| nil <| cwQ ?_
 refine wp_ret <| retQ (res1 rfl rfl) ?_
 exact ⟨b3, b4, b5, rfl, hS⟩
set_option maxHeartbeats 1000000 in
theorem it_speakers {l : List Gauge} {a : Option Addr} {cap p1 p2 p3 : Nat} {tick now : Int} {w0 : World} (hsl : Sl w0 5 RGauge (.slice a l.length cap) l) (hok : ∀ g ∈ l, GaugeOk g) (ht : Bd tick 0 200000) : ItC Tryz.prog 171 [.pointer (some ⟨p1, 0, none⟩), .pointer (some ⟨p2, 0, none⟩), .pointer (some ⟨p3, 0, none⟩)] w0 [blk p3 [.int .i64 now] 3, blk p2 [.int .i64 tick] 3, blk p1 [.slice a l.length cap] 25] spC (spk tick now l) := by
 obtain ⟨a', cap', hv, hcap, hmx, hel⟩ := hsl
 obtain ⟨rfl, rfl⟩ := slice_inj hv.symm
 intro yl Cb w L hY h0 hS
 replace hS : StX [] w0 w (blk p3 [.int .i64 now] 3 :: blk p2 [.int .i64 tick] 3 :: blk p1 [.slice a l.length cap] 25 :: L) := hS
 refine enterX Tryz.func171 rfl Tryz.ntmps171 rfl ?_
 skip
 refine seqX <| regionX rfl <| sv (yLdB rfl Tryz.isAgg25 (hS.at _) rfl) <| sv (yLen rfl Tryz.underlying25) <| sv (yMove rfl) <| nil ?_
 show Code.wpIn _ _ _ _ _ _ _
 refine blockX <| loopX (fun f w zz => ∃ (k : Nat) (L : List Bx.Item), f 0 = .func (.yield yl) #[] #[] ∧ f 2 = .pointer (some ⟨p2, 0, none⟩) ∧ f 3 = .pointer (some ⟨p3, 0, none⟩) ∧ f 9 = .slice a l.length cap ∧ f 10 = .int .i64 (l.length : Int) ∧ f 11 = .int .i64 (k : Int) ∧ StX [] w0 w (blk p3 [.int .i64 now] 3 :: blk p2 [.int .i64 tick] 3 :: blk p1 [.slice a l.length cap] 25 :: L) ∧ (k ≤ l.length) ∧ (Cb true (spk tick now (l.take k)) L) ∧ zz = l.length - k) _ ⟨_, rfl, 0, L, rfl, rfl, rfl, rfl, rfl, rfl, hS, (Nat.zero_le _), (h0), rfl⟩ ?_
 clear hS
 rintro f w _ ⟨k, L, h0, h2, h3, h9, h10, h11, hS, hk, hcb, rfl⟩
 refine seqX <| regionX rfl <| sv (yLss h11 h10) <| nil ?_
 show Code.wpIn _ _ _ _ _ _ _
 refine seqX ?_
 refine condX rfl (fun c12 => ?_) (fun c12 => ?_)
 ·
  simp only [BS, ne_eq] at c12
  refine skipX ?_
  show Code.wpIn _ _ _ _ _ _ _
  refine seqX <| blockX <| seqX <| regionX rfl ?_
  obtain ⟨u, hx, hd⟩ := drop_of (l := l) (k := k) (by omega)
  obtain ⟨b, o, cs, ha, hlen, hcs, hR⟩ := hel (k) (by omega)
  obtain rfl : u = l[k] := (List.getElem?_eq_some_iff.1 hx).2.symm
  generalize l[k] = u at hx hd hR
  have hg := hR
  obtain ⟨dv, rv, rfl, -, -, -, hsd, hsr⟩ := id hg
  obtain ⟨ad, cad, rfl, -⟩ := hsd
  obtain ⟨ar, car, rfl, -⟩ := hsr
  refine sv (yMove h11) <| sv (yIxa h9 ha h11 Tryz.runUnderlying25 Tryz.sizeOf68 (by omega) (by omega)) <| sv (yLdA rfl Tryz.isAgg68 Tryz.sizeOf68 (hcs.ext hS.ext) hlen) ?_
  refine salloc hS Tryz.zeroValue68 rfl ?_; clear hS; intro b6 w hS
  refine sv (yAsg rfl) ?_
  refine sst hS rfl rfl Tryz.sizeOf68 rfl rfl rfl rfl ?_; clear hS; intro w hS
  refine nil ?_
  show Code.wpIn _ _ _ _ _ _ _
  refine seqX <| regionX rfl <| sv (yLdBA rfl Tryz.isAgg68 Tryz.sizeOf68 (hS.at _) rfl rfl) <| sv (yLdB h2 Tryz.isAgg3 (hS.at _) rfl) <| sv (yLdB h3 Tryz.isAgg3 (hS.at _) rfl) ?_
  refine scall Tryz.call172 (.cons rfl (.cons rfl (.cons rfl .nil))) (c_says (hg.ext hS.ext) (hok u (List.mem_of_getElem? hx)) ht) ?_
  rintro _ w ⟨rfl, hE⟩; replace hS := hS.step hE; clear hE
  refine sv (yMove rfl) <| sv (yExt rfl rfl) <| sv (yExt rfl rfl) ?_
  refine salloc hS Tryz.zeroValue74 rfl ?_; clear hS; intro b7 w hS
  refine sst hS rfl rfl Tryz.sizeOf74 rfl rfl rfl rfl ?_; clear hS; intro w hS
  refine sv (yAsg rfl) <| nil ?_
  show Code.wpIn _ _ _ _ _ _ _
  refine seqX <| regionL <| preX 6 rfl <| sv (yMove rfl) <| sv (yEql rfl rfl) <| sv (yMove rfl) ?_
  refine sg rfl rfl rfl (fun g => (yMove h0)) (fun v26 g26 => ?_)
  refine sg rfl rfl rfl (fun g => (yMove rfl)) (fun v27 g27 => ?_)
  refine sg rfl rfl rfl (fun g => (yLdBA rfl Tryz.isAgg74 Tryz.sizeOf74 (hS.at _) rfl rfl)) (fun v28 g28 => ?_)
  refine nil ?_
  show wpListIn _ _ _ _ _ _ _ _
  refine yieldG rfl rfl rfl (fun hne => ?_) (fun g => ⟨(g26.1 g), (.cons (g27.1 g) (.cons (g28.1 g) .nil)), (hY _ (((k : Int), (saysG u tick now).1)) w L [blk b7 (spanC (saysG u tick now).1) 74, blk b6 [.string u.name, .int .i64 u.err, .int .i64 u.rate, .slice ad u.datums.length cad, .slice ar u.readings.length car] 68, blk p3 [.int .i64 now] 3, blk p2 [.int .i64 tick] 3, blk p1 [.slice a l.length cap] 25] (spk_pre hx (of_decide_eq_true g)) hcb hS), ?_⟩)
  ·
   refine endX rfl ?_
   refine sg rfl rfl rfl (fun g => (yNot (show _ = Value.bool true from absurd g hne))) (fun v30 g30 => ?_)
   refine sv (yAnd rfl (fun hB => (g30.1 hB)) rfl) <| nil ?_
   show Code.wpIn _ _ _ _ _ _ _
   refine condX rfl (fun c31 => ?_) (fun c31 => ?_)
   ·
    skip
    simp at c31
   ·
    skip
    have hE : ¬ (saysG u tick now).2 = 0 := fun h => hne (decide_eq_true h)
    refine skipX ?_
    show Code.wpIn _ _ _ _ _ _ _
    refine regionX rfl <| sv (yAdd h11 rfl ⟨by omega, by omega⟩) <| sv (yMove rfl) <| nil ?_
    exact ⟨_, _, rfl, ⟨k + 1, L, h0, h2, h3, h9, h10, rfl, (hS.sub (.cons _ (.cons _ lrQ))), (by omega), (by rw [spk_take hx, if_neg hE, List.append_nil]; exact hcb), rfl⟩, by omega⟩
  ·
   clear hS hcb; rintro _ w ⟨b, L, rfl, hcb, hS⟩
   have hE : (saysG u tick now).2 = 0 := of_decide_eq_true g
   refine endX rfl ?_
   refine sg rfl rfl rfl (fun g => (yNot rfl)) (fun v30 g30 => ?_)
   refine sv (yAnd rfl (fun hB => (g30.1 hB)) rfl) <| nil ?_
   show Code.wpIn _ _ _ _ _ _ _
   refine condX rfl (fun c31 => ?_) (fun c31 => ?_)
   ·
    skip
    obtain rfl : b = false := by cases b; rfl; simp at c31
    refine wpIn_ret (blockR (thenR (thenR (blockR ?_))))
    refine leafX (results_none rfl _ _ _) ?_
    exact ⟨L, hS.sub (List.sublist_append_right _ _), .inr ⟨_, hcb⟩⟩
   ·
    skip
    obtain rfl : b = true := by cases b; simp [hE] at c31; rfl
    replace hS : StX [] w0 w (blk b7 (spanC (saysG u tick now).1) 74 :: blk b6 [.string u.name, .int .i64 u.err, .int .i64 u.rate, .slice ad u.datums.length cad, .slice ar u.readings.length car] 68 :: blk p3 [.int .i64 now] 3 :: blk p2 [.int .i64 tick] 3 :: blk p1 [.slice a l.length cap] 25 :: L) := hS
    refine skipX ?_
    show Code.wpIn _ _ _ _ _ _ _
    refine regionX rfl <| sv (yAdd h11 rfl ⟨by omega, by omega⟩) <| sv (yMove rfl) <| nil ?_
    exact ⟨_, _, rfl, ⟨k + 1, L, h0, h2, h3, h9, h10, rfl, (hS.sub (.cons _ (.cons _ lrQ))), (by omega), (by rw [spk_take hx, if_pos hE]; exact hcb), rfl⟩, by omega⟩
 ·
  simp only [BS, ne_eq] at c12
  refine exitX ?_
  show bodyPostM (FX none) 0 _ _ _ .normal _ _
  refine leafXN (results_none rfl _ _ _) ?_
  obtain rfl : k = l.length := by omega
  rw [List.take_length] at hcb
  exact ⟨L, hS.sub (.cons _ (.cons _ (.cons _ lrQ))), .inl hcb⟩
end Go.Proofs.YtgidbailiababaaGreatDoor

/- part Sk12 -/
namespace Go.Proofs.YtgidbailiababaaGreatDoor
open Go Bx
theorem cW_isNaN {a : Int} {w0 : World} : CE Tryz.prog 175 #[.int .i64 a] w0 (fun v w' => v = .bool false ∧ w' = w0) := by
 refine enter Tryz.func175 rfl Tryz.ntmps175 rfl ?_
 skip
 refine seq <| region <| sv (yAsg rfl) <| nil <| cwQ <| seq <| region <| sv (yMove rfl) <| sv (yMove rfl) ?_
 refine sv (yNeq rfl rfl) <| sv (yAsg rfl) <| nil <| cwQ <| wp_ret <| retQ (res1 rfl rfl) ?_
 exact ⟨eqB (by simp), rfl⟩
theorem cW_Compare {a b : Int} {w0 : World} : CE Tryz.prog 138 #[.int .i64 a, .int .i64 b] w0 (fun v w' => v = .int .i64 (cmpI a b) ∧ w' = w0) := by
 refine enter Tryz.func138 rfl Tryz.ntmps138 rfl ?_
 skip
 refine seq <| region <| sv (yAsg rfl) <| nil <| cwQ <| seq <| region <| sv (yMove rfl) ?_
 refine scall Tryz.call175 (.cons rfl .nil) cW_isNaN ?_
 rintro _ _ ⟨rfl, rfl⟩
 refine sv (yAsg rfl) <| nil <| cwQ <| seq <| region <| sv (yMove rfl) ?_
 refine scall Tryz.call175 (.cons rfl .nil) cW_isNaN ?_
 rintro _ _ ⟨rfl, rfl⟩
 refine sv (yAsg rfl) <| nil <| cwQ <| seq <| seq <| region <| sv (yMove rfl) <| nil <| cwQ ?_
 refine cond rfl (fun c11 => ?_) (fun c11 => ?_)
 ·
  exact absurd c11 (by decide)
 ·
  refine skip <| cwQ <| seq <| seq <| region <| sv (yMove rfl) <| nil <| cwQ ?_
  refine cond rfl (fun c13 => ?_) (fun c13 => ?_)
  ·
   exact absurd c13 (by decide)
  ·
   refine skip <| cwQ <| seq <| seq <| region <| sv (yMove rfl) <| sv (yMove rfl) <| sv (yLss rfl rfl) <| nil ?_
   refine cwQ ?_
   refine cond rfl (fun c16 => ?_) (fun c16 => ?_)
   ·
    simp only [BS, ne_eq] at c16
    refine seq <| region <| sv (yAsg rfl) <| nil <| cwQ ?_
    refine wp_ret (thenR ?_)
    refine retQ (res1 rfl rfl) ?_
    exact ⟨eqI (by unfold cmpI; rw [if_pos c16]), rfl⟩
   ·
    simp only [BS, ne_eq] at c16
    refine skip <| cwQ <| seq <| seq <| region <| sv (yMove rfl) <| sv (yMove rfl) <| sv (yGtr rfl rfl) <| nil ?_
    refine cwQ ?_
    refine cond rfl (fun c19 => ?_) (fun c19 => ?_)
    ·
     simp only [BS, ne_eq] at c19
     refine seq <| region <| sv (yAsg rfl) <| nil <| cwQ ?_
     refine wp_ret (thenR ?_)
     refine retQ (res1 rfl rfl) ?_
     exact ⟨eqI (by unfold cmpI; rw [if_neg c16, if_pos c19]), rfl⟩
    ·
     simp only [BS, ne_eq] at c19
     refine skip <| cwQ <| seq <| region <| sv (yAsg rfl) <| nil <| cwQ <| wp_ret <| retQ (res1 rfl rfl) ?_
     exact ⟨eqI (by unfold cmpI; rw [if_neg c16, if_neg c19]), rfl⟩
theorem cW_Or {l : List Int} {b : Nat} {T : TypeId} {w0 : World} (hb : w0.heap[b]? = some (.cells (l.map (Value.int .i64)).toArray T (0, 0))) (hl : l.length ≤ 1000) : CE Tryz.prog 137 #[.slice (some ⟨b, 0, none⟩) l.length l.length] w0 (fun v w' => v = .int .i64 (orF l) ∧ w' = w0) := by
 refine enter Tryz.func137 rfl Tryz.ntmps137 rfl ?_
 skip
 refine seq <| region <| sv (yAsg rfl) <| nil <| cwQ <| seq <| region <| sv (yAsg rfl) <| nil ?_
 refine cwQ <| seq <| seq <| region <| sv (yMove rfl) <| sv (yLen rfl Tryz.underlying39) <| sv (yMove rfl) <| nil <| cwQ ?_
 refine block <| loop (fun f w zz => ∃ (k : Nat), f 3 = .int .i64 0 ∧ f 6 = .slice (some ⟨b, 0, none⟩) l.length l.length ∧ f 7 = .int .i64 (l.length : Int) ∧ f 8 = .int .i64 (k : Int) ∧ (w = w0) ∧ (k ≤ l.length) ∧ (orF l = orF (l.drop k)) ∧ zz = l.length - k) _ ⟨_, rfl, 0, rfl, rfl, rfl, rfl, (rfl), (Nat.zero_le _), (rfl), rfl⟩ ?_
 rintro f w _ ⟨k, h3, h6, h7, h8, hw, hk, hI, rfl⟩
 refine seq <| region <| sv (yLss h8 h7) <| nil <| cwQ <| seq ?_
 refine cond rfl (fun c9 => ?_) (fun c9 => ?_)
 ·
  simp only [BS, ne_eq] at c9
  subst hw
  obtain ⟨x, hx, hd⟩ := drop_of (l := l) (k := k) (by omega)
  refine skip <| cwQ <| seq <| block <| seq <| region <| sv (yIx0 h6 h8 Tryz.runUnderlying39 Tryz.sizeOf3 (by omega)) ?_
  refine sv (yLd rfl Tryz.isAgg3 (blk_cells hb _ _ (show (l.map (Value.int .i64))[k]? = some (.int .i64 x) by rw [List.getElem?_map, hx]; rfl))) ?_
  refine sv (yAsg rfl) <| nil <| cwQ <| seq <| region <| sv (yMove rfl) <| sv (yMove h3) <| sv (yNeq rfl rfl) <| nil ?_
  refine cwQ ?_
  refine cond rfl (fun c14 => ?_) (fun c14 => ?_)
  ·
   simp only [BS, ne_eq] at c14
   refine seq <| region <| sv (yMove rfl) <| sv (yAsg rfl) <| nil <| cwQ ?_
   refine wp_ret (blockR (thenR (thenR (blockR (thenR ?_)))))
   refine retQ (res1 rfl rfl) ?_
   exact ⟨eqI (by rw [hI, hd, orF, if_neg c14]), rfl⟩
  ·
   simp only [BS, ne_eq] at c14
   refine skip <| cwQ <| region <| sv (yAdd h8 rfl ⟨by omega, by omega⟩) <| sv (yMove rfl) <| nil ?_
   exact ⟨_, _, rfl, ⟨k + 1, h3, h6, h7, rfl, (rfl), (by omega), (by rw [hI, hd, orF, if_pos c14]), rfl⟩, by omega⟩
 ·
  simp only [BS, ne_eq] at c9
  subst hw
  refine exit <| cwQ <| seq <| region <| sv (yMove h3) <| sv (yAsg rfl) <| nil <| cwQ ?_
  obtain rfl : k = l.length := by omega
  refine wp_ret <| retQ (res1 rfl rfl) ?_
  exact ⟨eqI (by rw [hI, List.drop_length]; rfl), rfl⟩
end Go.Proofs.YtgidbailiababaaGreatDoor

/- part Sk13 -/
namespace Go.Proofs.YtgidbailiababaaGreatDoor
open Go Bx
theorem c_pieces1 {x y : Int × Int} {w0 : World} : CE Tryz.prog 136 #[.agg (encE x).toArray, .agg (encE y).toArray] w0 (fun v w' => v = .int .i64 (cmpE x y) ∧ ∃ q os, w' = Sort.grow (w0.drewN q) os) := by
 refine enter Tryz.func136 rfl Tryz.ntmps136 rfl <| seq <| region <| sv (yBoxW (cs := encE x) rfl rfl) <| sv (yBoxW (cs := encE y) rfl rfl) <| sv (yAsg rfl) <| nil <| cwQ ?_
 obtain ⟨w1, hw1⟩ : ∃ w1, w1 = w0.alloc (.cells (encE x).toArray 182 (0, 0)) := ⟨_, rfl⟩
 obtain ⟨w2, hw2⟩ : ∃ w2, w2 = w1.alloc (.cells (encE y).toArray 182 (0, 0)) := ⟨_, rfl⟩
 have hx : w2.heap[w0.heap.size]? = some (.cells (encE x).toArray 182 (0, 0)) := by rw [hw2]; exact (ext_alloc _ _).get (by rw [hw1]; exact heap_alloc_new _ _)
 have hy : w2.heap[w1.heap.size]? = some (.cells (encE y).toArray 182 (0, 0)) := by rw [hw2]; exact heap_alloc_new _ _
 subst hw1
 rw [show ((w0.alloc (.cells (encE x).toArray 182 (0, 0))).alloc (.cells (encE y).toArray 182 (0, 0))) = w2 from hw2.symm]
 refine seq <| region_tailC (fun w => ∃ q, w = w2.drewN q) mixed 10 (by kernel_rfl) ⟨1, rfl⟩ <| qvC (fun w _ => fa182_0 rfl) ?_
 refine qvC (fun w hC => yLdB rfl Tryz.isAgg3 (by obtain ⟨q, rfl⟩ := hC; exact hx) rfl) ?_
 refine qvC (fun w _ => fa182_0 rfl) ?_
 refine qvC (fun w hC => yLdB rfl Tryz.isAgg3 (by obtain ⟨q, rfl⟩ := hC; exact hy) rfl) ?_
 refine qcallC Tryz.call138 (.cons rfl (.cons rfl .nil)) (fun w hC => cW_Compare.mono (by rintro _ _ ⟨rfl, rfl⟩; exact ⟨rfl, hC⟩)) ?_
 refine qvC (fun w _ => fa182_1 rfl) ?_
 refine qvC (fun w hC => yLdB rfl Tryz.isAgg3 (by obtain ⟨q, rfl⟩ := hC; exact hx) rfl) ?_
 refine qvC (fun w _ => fa182_1 rfl) ?_
 refine qvC (fun w hC => yLdB rfl Tryz.isAgg3 (by obtain ⟨q, rfl⟩ := hC; exact hy) rfl) ?_
 refine qcallC Tryz.call138 (.cons rfl (.cons rfl .nil)) (fun w hC => cW_Compare.mono (by rintro _ _ ⟨rfl, rfl⟩; exact ⟨rfl, hC⟩)) ?_
 refine qtlC ?_
 rintro w ⟨q, rfl⟩
 refine sv (yBSW Tryz.underlying39 Tryz.sizeOf3 rfl Tryz.zeroValue3 rfl (.cons rfl rfl (.cons rfl rfl .nil)) rfl) ?_
 refine scall Tryz.call137 (.cons rfl .nil) (cW_Or (l := [cmpI x.1 y.1, cmpI x.2 y.2]) (heap_alloc_new _ _) (Nat.le_of_ble_eq_true rfl)) ?_
 rintro _ _ ⟨rfl, rfl⟩
 refine sv (yAsg rfl) <| nil <| cwQ ?_
 refine wp_ret (retQ (res1 rfl rfl) ?_)
 refine ⟨rfl, q, #[.cells (encE x).toArray 182 (0, 0), .cells (encE y).toArray 182 (0, 0), .cells ([cmpI x.1 y.1, cmpI x.2 y.2].map (Value.int .i64)).toArray 3 (0, 0)], ?_⟩
 rw [hw2]
 exact grow3 _ _ _ _ _

end Go.Proofs.YtgidbailiababaaGreatDoor

/- part Sk14 -/
namespace Go.Proofs.YtgidbailiababaaGreatDoor
open Go Bx
open Go.Shelf Go.RowKit Go.Lib Go.Sort
theorem lt_cmpE : ltOf cmpE = ltE := by funext x y; exact cmpE_lt x y
theorem c_SortEnds {v : Value} {n : Nat} {l : List (Int × Int)} {w0 : World} (hr : w0.ownsRow 0 182 2 v n (l.flatMap encE)) (hl : l.length = n) (hn : n ≤ 1000) :
  CE Tryz.prog 135 #[v, .func (.func 136) #[] #[]] w0 (fun u w' => u = .tuple #[] ∧ w0.grownBy w' v.ownBlock ∧ w'.ownsRow 0 182 2 v n ((sortE l).flatMap encE)) := by
 rcases id hr.2 with ⟨rfl, rfl⟩ | ⟨gb, cap, cur, rfl, -, hg, hnc, hcap, hcs, ht⟩
 ·
  have h := AnyF.slices_SortFunc_none (P := Tryz.prog) sortEnds none 0 (.func (.func 136) #[] #[]) w0
  refine Calls.mono h ?_
  rintro e w' ⟨rfl, rfl⟩
  obtain rfl : l = [] := List.eq_nil_of_length_eq_zero hl
  exact ⟨_, rfl, rfl, ⟨rfl, rfl, rfl, Nat.le_refl _, fun _ _ _ => rfl⟩, by rw [show sortE [] = [] from by simp [sortE]]; exact hr⟩
 ·
  have hcmp : CmpLays Tryz.prog 136 #[] encE 2 cmpE gb 0 l.toArray.size w0 := by
   intro m os dk _ x y
   rw [Array.append_empty]
   refine Calls.mono (c_pieces1 (x := x) (y := y)) ?_
   rintro e w' ⟨_, rfl, rfl, q, os', rfl⟩
   exact ⟨rfl, q, os', rfl⟩
  have hO : SWO (ltOf cmpE) := by rw [lt_cmpE]; exact ⟨ltE_irr, ltE_trans, ltE_ntrans⟩
  have h := AnyQ.slices_SortFunc_total sortEnds 2 Tryz.isAgg182 Tryz.sizeOf182 encE (fun _ => rfl) (fun x v hv => by simp [encE] at hv; rcases hv with rfl | rfl <;> rfl) cmpE hO 136 #[] gb 0 cap l.toArray w0 Tryz.call136 hcmp (holds_row hg hcs hnc hl ht) (lt_of_heap hg) (by simp; omega) (by rw [lt_cmpE]; exact ltE_tot)
  have hs : l.toArray.size = n := by simp [hl]
  rw [hs] at h
  refine Calls.mono h ?_
  rintro e w' ⟨rfl, m, os, rfl⟩
  have hm : (l.toArray.toList.mergeSort fun x y => !(ltOf cmpE) y x) = sortE l := by rw [lt_cmpE]; rfl
  rw [hm]
  obtain ⟨h1, h2⟩ := sort_row (m := m) (os := os) (l := sortE l) hg hcs hnc hcap (by rw [sortE_len, hl])
  exact ⟨_, rfl, rfl, h2, h1⟩

end Go.Proofs.YtgidbailiababaaGreatDoor

/- part Sk15 -/
namespace Go.Proofs.YtgidbailiababaaGreatDoor
open Go Bx
set_option maxHeartbeats 2000000 in
theorem c_pieces {l : List Gauge} {a : Option Addr} {cap : Nat} {tick now : Int} {w0 : World} (hsl : Sl w0 5 RGauge (.slice a l.length cap) l) (hok : ∀ u ∈ l, GaugeOk u) (ht : Bd tick 0 200000) (hlen : l.length ≤ 100) : CE Tryz.prog 74 #[.slice a l.length cap, .int .i64 tick, .int .i64 now] w0 (fun v w' => St w0 w' [rowI v 128 3 (piecesF tick now l).length ((piecesF tick now l).flatMap pieceC)]) := by
 refine enterX Tryz.func74 rfl Tryz.ntmps74 rfl ?_
 have hS := St.start w0
 refine seqX <| regionX rfl <| sv (yAsg rfl) <| nil ?_
 show Code.wpIn _ _ _ _ _ _ _
 refine seqX <| regionX rfl ?_
 refine salloc hS Tryz.zeroValue177 rfl ?_; clear hS; intro b7 w hS
 refine nil ?_
 show Code.wpIn _ _ _ _ _ _ _
 refine seqX <| seqX <| regionX rfl ?_
 replace hS := hS.nilrow 182 2
 refine sv (yMove rfl) <| sv (yMove rfl) <| sv (yMove rfl) ?_
 refine scall Tryz.call134 (.cons rfl (.cons rfl (.cons rfl .nil))) c_speakers ?_
 rintro _ w ⟨p1, p2, p3, rfl, hM⟩; replace hS := hS.call hM; clear hM
 refine nil ?_
 show Code.wpIn _ _ _ _ _ _ _
 refine blockX ?_
 refine rangeX (R := [blk p3 [.int .i64 now] 3, blk p2 [.int .i64 tick] 3, blk p1 [.slice a l.length cap] 25]) (L0 := [rowI (.slice none 0 0) 182 2 0 [], blk b7 [.slice none 0 0] 177]) (ps := [20, 21]) rfl Tryz.call171 hS (it_speakers hsl hok ht) (fun cc pre L => cc = none ∧ ∃ v, L = [rowI v 182 2 (endsF pre).length ((endsF pre).flatMap encE), blk b7 [v] 177]) ⟨rfl, _, rfl⟩ (fun _ _ => rfl) ?_ ?_ ?_
 ·
  clear hS
  intro yl pre x w L M hpre hcb hS
  obtain ⟨-, v, rfl⟩ := hcb
  obtain ⟨hx1, hx2, hx3, -, -⟩ := spkF_mem (hpre.subset (show x ∈ pre ++ [x] by simp))
  have hpl : pre.length ≤ 100 := by
   have h1 := hpre.length_le
   have h2 : (spk tick now l).length ≤ l.length := spkF_len tick now l 0
   simp only [List.length_append, List.length_singleton] at h1
   omega
  have hel := endsF_len pre
  replace hS : StX [] w0 w (rowI v 182 2 (endsF pre).length ((endsF pre).flatMap encE) :: blk b7 [v] 177 :: M) := hS
  refine regionX rfl ?_
  refine salloc hS Tryz.zeroValue74 rfl ?_; clear hS; intro b9 w hS
  refine sst hS rfl rfl Tryz.sizeOf74 rfl rfl rfl rfl ?_; clear hS; intro w hS
  refine nil ?_
  refine ⟨_, [blk b9 (spanC x.2) 74, rowI v 182 2 (endsF pre).length ((endsF pre).flatMap encE), blk b7 [v] 177], rfl, hS, ?_⟩
  clear hS M; intro M w hS; replace hS : StX [] w0 w (blk b9 (spanC x.2) 74 :: rowI v 182 2 (endsF pre).length ((endsF pre).flatMap encE) :: blk b7 [v] 177 :: M) := hS
  refine blockX <| seqX <| regionX rfl <| sv (fa74_0 rfl) <| sv (yLdB rfl Tryz.isAgg3 (hS.at _) rfl) <| sv (fa74_1 rfl) <| sv (yLdB rfl Tryz.isAgg3 (hS.at _) rfl) <| sv (yAdd rfl rfl ⟨by omega, by omega⟩) <| sv (yBuildA Tryz.zeroValue72 rfl Tryz.underlying72 Tryz.sizeOf3 (.cons rfl rfl (.cons rfl rfl .nil)) rfl) ?_
  refine sv (yMove rfl) <| nil ?_
  show Code.wpIn _ _ _ _ _ _ _
  refine blockX ?_
  refine loopX (fun f w zz => ∃ (k : Nat) (v : Value), f 7 = .pointer (some ⟨b7, 0, none⟩) ∧ f 27 = .agg [.int .i64 x.2.lo, .int .i64 (x.2.hi + 1)].toArray ∧ f 28 = .int .i64 (k : Int) ∧ StX [] w0 w (rowI v 182 2 (endsF pre ++ (endsOf x.2).take k).length ((endsF pre ++ (endsOf x.2).take k).flatMap encE) :: blk b7 [v] 177 :: M) ∧ (k ≤ 2) ∧ zz = 2 - k) _ ⟨_, rfl, 0, v, rfl, rfl, rfl, (by simp only [List.take_zero, List.append_nil]; exact hS.sub (.cons _ lrQ)), (by omega), rfl⟩ ?_
  clear hS
  rintro f w _ ⟨k, v, h7, h27, h28, hS, hk, rfl⟩
  refine seqX <| regionX rfl <| sv (yLss h28 rfl) <| nil ?_
  show Code.wpIn _ _ _ _ _ _ _
  refine seqX ?_
  refine condX rfl (fun c29 => ?_) (fun c29 => ?_)
  ·
   simp only [BS, ne_eq] at c29
   have hk2 : k = 0 ∨ k = 1 := by omega
   refine skipX ?_
   show Code.wpIn _ _ _ _ _ _ _
   refine seqX <| blockX <| seqX <| regionX rfl <| sv (yMove h28) ?_
   refine sv (yIxV h27 h28 Tryz.underlying72 Tryz.sizeOf3 Tryz.isAgg3 (by omega) (show [Value.int .i64 x.2.lo, .int .i64 (x.2.hi + 1)][k]? = some (.int .i64 (if k = 0 then x.2.lo else x.2.hi + 1)) by rcases hk2 with rfl | rfl <;> rfl)) ?_
   refine sv (yAsg rfl) <| sv (yAsg rfl) <| nil ?_
   show Code.wpIn _ _ _ _ _ _ _
   refine regionX rfl <| sv (yLdB h7 Tryz.isAgg177 (hS.at _) rfl) <| sv (yMove rfl) <| sv (yMove rfl) <| sv (yBuild Tryz.zeroValue182 rfl pl182 (.cons rfl rfl (.cons rfl rfl .nil)) rfl) ?_
   refine sbslice hS Tryz.underlying177 Tryz.sizeOf182 rfl Tryz.zeroValue182 rfl (.cons rfl rfl .nil) rfl ?_; clear hS; intro b36 w hS
   refine sapp (bytes := 16) (size := 2) (v := v) (m := 1) hS rfl rfl Tryz.underlying177 ti182 rfl rfl rfl rfl (by decide) (blk_cells (hS.at _)) rfl rfl (by simp [endsOf]; omega) (by simp [endsOf]; omega) ?_; clear hS; intro v37 w hS
   obtain ⟨gr, capr, rfl, -⟩ := row_some (hS.row v37) (Nat.succ_pos _)
   refine sst hS h7 rfl Tryz.sizeOf177 rfl rfl rfl rfl ?_; clear hS; intro w hS
   refine nil ?_
   show Code.wpIn _ _ _ _ _ _ _
   refine regionX rfl <| sv (yAdd h28 rfl ⟨by omega, by omega⟩) <| sv (yMove rfl) <| nil ?_
   exact ⟨_, _, rfl, ⟨k + 1, _, h7, h27, rfl, (by rw [show endsF pre ++ (endsOf x.2).take (k + 1) = (endsF pre ++ (endsOf x.2).take k) ++ [((if k = 0 then x.2.lo else x.2.hi + 1), (k : Int))] from by rcases hk2 with rfl | rfl <;> simp [endsOf]]; rw [List.flatMap_append, List.length_append]; exact hS.sub (.cons _ lrQ)), (by omega), rfl⟩, by omega⟩
  ·
   simp only [BS, ne_eq] at c29
   refine exitX ?_
   obtain rfl : k = 2 := by omega
   rw [show endsF pre ++ (endsOf x.2).take 2 = endsF (pre ++ [x]) from (endsF_snoc pre x).symm] at hS
   exact ⟨_, ⟨rfl, _, rfl⟩, hS⟩
 ·
  clear hS
  intro D w L hcb hS
  obtain ⟨-, v, rfl⟩ := hcb
  have hel := endsF_len (spk tick now l)
  have hsl2 : (spk tick now l).length ≤ l.length := spkF_len tick now l 0
  replace hS : StX [] w0 w [obj D (.deferred (some [])), rowI v 182 2 (endsF (spk tick now l)).length ((endsF (spk tick now l)).flatMap encE), blk b7 [v] 177] := hS
  show Code.wpIn _ _ _ _ _ _ _
  refine seqX <| regionX rfl <| sv (yLdB rfl Tryz.isAgg177 (hS.at _) rfl) ?_
  refine scall Tryz.call135 (.cons rfl (.cons rfl .nil)) (c_SortEnds (hS.row v) rfl (by omega)) ?_
  rintro _ w ⟨rfl, hG, hR⟩; replace hS := hS.app (v := v) (v' := v) hR hG (.inl rfl); clear hG hR
  obtain ⟨SS, hSS⟩ : ∃ SS, SS = sortE (endsF (spk tick now l)) := ⟨_, rfl⟩
  have hSl : (endsF (spk tick now l)).length = SS.length := by rw [hSS, sortE_len]
  have hSo : ∀ x ∈ SS, EndOk x := by rw [hSS]; exact sorted_ok
  rw [← hSS, hSl] at hS
  rw [hSl] at hel
  obtain ⟨ae, ce, rfl⟩ := row_shape (hS.row v)
  refine nil ?_
  show Code.wpIn _ _ _ _ _ _ _
  refine seqX <| regionX rfl <| sv (yAsg rfl) <| nil ?_
  show Code.wpIn _ _ _ _ _ _ _
  refine seqX <| regionX rfl <| sv (yAsg rfl) <| nil ?_
  show Code.wpIn _ _ _ _ _ _ _
  refine seqX <| seqX <| regionX rfl <| sv (yLdB rfl Tryz.isAgg177 (hS.at _) rfl) <| sv (yLen rfl Tryz.underlying177) <| sv (yMove rfl) <| nil ?_
  show Code.wpIn _ _ _ _ _ _ _
  refine blockX <| loopX (fun f w zz => ∃ (k : Nat) (m : Int) (ov : Value) (outs : List (Span × Int)), f 7 = .pointer (some ⟨b7, 0, none⟩) ∧ f 12 = ov ∧ f 13 = .int .i64 m ∧ f 41 = .slice ae SS.length ce ∧ f 42 = .int .i64 (SS.length : Int) ∧ f 43 = .int .i64 (k : Int) ∧ StX [] w0 w [rowI ov 128 3 outs.length (outs.flatMap pieceC), obj D (.deferred (some [])), rowI (.slice ae SS.length ce) 182 2 SS.length (SS.flatMap encE), blk b7 [.slice ae SS.length ce] 177] ∧ (k ≤ SS.length) ∧ (Bd m (-(k : Int)) k) ∧ (outs.length ≤ k) ∧ (piecesL SS 0 = outs ++ piecesL (SS.drop k) m) ∧ zz = SS.length - k) _ ⟨_, rfl, 0, 0, _, [], rfl, rfl, rfl, rfl, rfl, rfl, (hS.nilrow 128 3), (Nat.zero_le _), (⟨by decide, by decide⟩), (Nat.le_refl _), (rfl), rfl⟩ ?_
  clear hS
  rintro f w _ ⟨k, m, ov, outs, h7, h12, h13, h41, h42, h43, hS, hk, hm, hoL, hI, rfl⟩
  refine seqX <| regionX rfl <| sv (yLss h43 h42) <| nil ?_
  show Code.wpIn _ _ _ _ _ _ _
  refine seqX ?_
  refine condX rfl (fun c44 => ?_) (fun c44 => ?_)
  ·
   simp only [BS, ne_eq] at c44
   obtain ⟨x, hx, hd⟩ := drop_of (l := SS) (k := k) (by omega)
   obtain ⟨ge, hae, hce⟩ := row_get (hS.row (.slice ae SS.length ce)) (by omega)
   obtain ⟨hxb, hxk⟩ := hSo x (List.mem_of_getElem? hx)
   have hxk2 : 0 ≤ x.2 ∧ x.2 ≤ 1 := by omega
   obtain ⟨y, hyk⟩ : ∃ y, k + 1 < SS.length → SS[k + 1]? = some y := by
    by_cases hq : k + 1 < SS.length
    ·
     exact ⟨SS[k + 1], fun _ => List.getElem?_eq_getElem hq⟩
    ·
     exact ⟨(0, 0), fun h => absurd h hq⟩
   refine skipX ?_
   show Code.wpIn _ _ _ _ _ _ _
   refine seqX <| blockX <| seqX <| regionX rfl <| sv (yMove h43) <| sv (yIxa h41 hae h43 Tryz.runUnderlying177 Tryz.sizeOf182 (by omega) (by omega)) <| sv (yLdA rfl Tryz.isAgg182 Tryz.sizeOf182 (flat_cells encE_len (row_at (hS.row (.slice ae SS.length ce)) hae (by omega)) hx) rfl) ?_
   refine salloc hS Tryz.zeroValue182 rfl ?_; clear hS; intro b15 w hS
   refine sv (yAsg rfl) ?_
   refine sst hS rfl rfl Tryz.sizeOf182 rfl rfl rfl rfl ?_; clear hS; intro w hS
   refine nil ?_
   show Code.wpIn _ _ _ _ _ _ _
   refine seqX <| regionX rfl <| sv (yMove h13) <| sv (fa182_1 rfl) <| sv (yLdB rfl Tryz.isAgg3 (hS.at _) rfl) <| sv (yMul rfl rfl ⟨by omega, by omega⟩) <| sv (ySub rfl rfl ⟨by omega, by omega⟩) <| sv (yAdd rfl rfl ⟨by omega, by omega⟩) <| sv (yAsg rfl) ?_
   refine nil ?_
   show Code.wpIn _ _ _ _ _ _ _
   refine seqX <| region_drawX mixed (by kernel_rfl) rfl hS <| qv (fun w hS => (yMove rfl)) <| qv (fun w hS => (yAdd rfl rfl ⟨by omega, by omega⟩)) <| qv (fun w hS => (yLdB h7 Tryz.isAgg177 (hS.at _) rfl)) <| qv (fun w hS => (yLen rfl Tryz.underlying177)) <| qv (fun w hS => (yLss rfl rfl)) <| qv (fun w hS => (yMove rfl)) ?_
   refine qg rfl rfl rfl (fun g w hS => (yLdB h7 Tryz.isAgg177 (hS.at _) rfl)) (fun v60 g60 => ?_)
   refine qg rfl rfl rfl (fun g w hS => (yMove rfl)) (fun v61 g61 => ?_)
   refine qg rfl rfl rfl (fun g w hS => (yAdd (g61.1 g) rfl ⟨by omega, by omega⟩)) (fun v62 g62 => ?_)
   refine qg rfl rfl rfl (fun g w hS => (yIxa (g60.1 g) hae (g62.1 g) Tryz.runUnderlying177 Tryz.sizeOf182 (by omega) (by have := of_decide_eq_true g; omega))) (fun v63 g63 => ?_)
   refine qg rfl rfl rfl (fun g w hS => (fa182_0 (g63.1 g))) (fun v64 g64 => ?_)
   refine qg rfl rfl rfl (fun g w hS => (yLd (g64.1 g) Tryz.isAgg3 (((flat_cells encE_len (row_at (hS.row (.slice ae SS.length ce)) hae (by omega)) (hyk (by have := of_decide_eq_true g; omega)))).one))) (fun v65 g65 => ?_)
   refine qg rfl rfl rfl (fun g w hS => (fa182_0 rfl)) (fun v66 g66 => ?_)
   refine qg rfl rfl rfl (fun g w hS => (yLdB (g66.1 g) Tryz.isAgg3 (hS.at _) rfl)) (fun v67 g67 => ?_)
   refine qg rfl rfl rfl (fun g w hS => (yGtr (g65.1 g) (g67.1 g))) (fun v68 g68 => ?_)
   refine qv (fun w hS => (yAnd rfl (fun hB => (g68.1 hB)) rfl)) ?_
   clear hS; refine qnil (fun w hS => ?_)
   show Code.wpIn _ _ _ _ _ _ _
   refine condX rfl (fun c69 => ?_) (fun c69 => ?_)
   ·
    simp only [BS, ne_eq] at c69
    obtain ⟨hk1, hxy⟩ := c69
    have hy := hyk (by omega)
    have hyb := (hSo y (List.mem_of_getElem? hy)).1
    refine region_anyX (C := (fun w => StX [] w0 w [blk b15 (encE x) 182, obj D (.deferred (some [])), rowI (.slice ae SS.length ce) 182 2 SS.length (SS.flatMap encE), blk b7 [.slice ae SS.length ce] 177])) mixed 13 15 (by kernel_rfl) rfl hS (fun _ h => h.sub (.cons_cons _ (.cons _ lrQ))) ?_
    clear hS; intro w hS
    refine hv (fun w hS => (yMove h12)) <| hv (fun w hS => (fa182_0 rfl)) <| hv (fun w hS => (yLdB rfl Tryz.isAgg3 (hS.at _) rfl)) <| hv (fun w hS => (yLdB h7 Tryz.isAgg177 (hS.at _) rfl)) <| hv (fun w hS => (yMove rfl)) <| hv (fun w hS => (yAdd rfl rfl ⟨by omega, by omega⟩)) <| hv (fun w hS => (yIxa rfl hae rfl Tryz.runUnderlying177 Tryz.sizeOf182 (by omega) (by omega))) <| hv (fun w hS => (fa182_0 rfl)) <| hv (fun w hS => (yLd rfl Tryz.isAgg3 (((flat_cells encE_len (row_at (hS.row (.slice ae SS.length ce)) hae (by omega)) hy)).one))) ?_
    refine hv (fun w hS => (ySub rfl rfl ⟨by omega, by omega⟩)) <| hv (fun w hS => (yBuild Tryz.zeroValue74 rfl pl74 (.cons rfl rfl (.cons rfl rfl .nil)) rfl)) <| hv (fun w hS => (yMove rfl)) <| hv (fun w hS => (yBuild Tryz.zeroValue128 rfl pl128 (.cons rfl rfl (.cons rfl rfl .nil)) rfl)) <| hnil <| awQ <| a1Q 13 (by kernel_rfl) rfl ?_
    refine sbslice hS Tryz.underlying125 Tryz.sizeOf128 rfl Tryz.zeroValue128 rfl (.cons rfl rfl .nil) rfl ?_; clear hS; intro b83 w hS
    refine nil ?_
    refine ⟨fun _ => hS.sub (List.Sublist.trans (.cons_cons _ (.cons _ lrQ)) (.cons _ lrQ)), ?_⟩
    refine awQ <| a1Q 14 (by kernel_rfl) rfl ?_
    refine sapp (bytes := 24) (size := 3) (v := ov) (m := 1) hS rfl rfl Tryz.underlying125 ti128 rfl rfl rfl rfl (by decide) (blk_cells (hS.at _)) rfl rfl (by omega) (by omega) ?_; clear hS; intro v84 w hS
    refine nil ?_
    refine ⟨fun _ => hS.sub (List.Sublist.trans (.cons_cons _ (.cons _ lrQ)) (.cons _ lrQ)), ?_⟩
    refine awQ <| a1Q 15 (by kernel_rfl) rfl <| sv (yAsg rfl) <| nil ?_
    refine ⟨fun h => absurd h (by decide), ?_⟩
    refine awQ <| a_end (by kernel_rfl) ?_
    show Code.wpIn _ _ _ _ _ _ _
    refine regionX rfl <| sv (yAdd h43 rfl ⟨by omega, by omega⟩) <| sv (yMove rfl) <| nil ?_
    exact ⟨_, _, rfl, ⟨k + 1, m + (1 - 2 * x.2), _, outs ++ [((⟨x.1, y.1 - 1⟩ : Span), m + (1 - 2 * x.2))], h7, rfl, rfl, h41, h42, rfl, (by rw [List.flatMap_append, List.length_append]; exact hS.sub (.cons _ (.cons _ lrQ))), (by omega), (⟨by omega, by omega⟩), (by simp; omega), (by rw [hI, pieces_step hx, hy]; simp only [stepP]; rw [if_pos hxy, List.append_assoc]), rfl⟩, by omega⟩
   ·
    simp only [BS, ne_eq] at c69
    have hno : stepP x m SS[k + 1]? = [] := by
     cases hq : SS[k + 1]? with
     | none => rfl
     | some y2 =>
      have hk1 : k + 1 < SS.length := (List.getElem?_eq_some_iff.1 hq).1
      have hy2 := hyk hk1
      rw [hq] at hy2
      cases hy2
      simp only [stepP]
      rw [if_neg (by omega)]
    refine skipX ?_
    show Code.wpIn _ _ _ _ _ _ _
    refine regionX rfl <| sv (yAdd h43 rfl ⟨by omega, by omega⟩) <| sv (yMove rfl) <| nil ?_
    exact ⟨_, _, rfl, ⟨k + 1, m + (1 - 2 * x.2), _, outs, h7, h12, rfl, h41, h42, rfl, (hS.sub (.cons _ lrQ)), (by omega), (⟨by omega, by omega⟩), (by omega), (by rw [hI, pieces_step hx, hno]; rfl), rfl⟩, by omega⟩
  ·
   simp only [BS, ne_eq] at c44
   obtain rfl : k = SS.length := by omega
   rw [List.drop_length] at hI
   have hfin : piecesF tick now l = outs := by unfold piecesF; rw [← hSS, hI]; simp [piecesL]
   refine exitX ?_
   show Code.wpIn _ _ _ _ _ _ _
   refine seqX <| regionX rfl <| sv (yMove h12) <| sv (yAsg rfl) <| nil ?_
   show Code.wpIn _ _ _ _ _ _ _
   refine wpIn_ret ?_
   refine leafD hS (fun w hS => (res1 rfl rfl)) (fun w hS => ?_)
   show St w0 w [_]
   rw [hfin]
   exact hS.sub (.cons_cons _ (List.nil_sublist _))
 ·
  intro D w L c pre hcb hS; exact absurd hcb.1 (by simp)
end Go.Proofs.YtgidbailiababaaGreatDoor

/- part Sk16 -/
namespace Go.Proofs.YtgidbailiababaaGreatDoor
open Go Bx
theorem c_IndexFuncP {l : List (Span × Int)} {p : Span × Int → Bool} {v : Value} {g : Nat} {cl : List Value} {w0 : World} (hsl : Sl w0 3 (fun (_ : World) cs x => cs = pieceC x ∧ True) v l) (hcall : ∀ ys w, (callFunc g ys).run Tryz.prog w = .ok (.enter g ys) w) (hp : ∀ x w, x ∈ l → Ext w0 w → CV Tryz.prog g (.agg (pieceC x).toArray :: cl).toArray w (.bool (p x))) : CV Tryz.prog 133 #[v, .func (.func g) #[] cl.toArray] w0 (.int .i64 (idxF p l 0)) := by
 obtain ⟨a, cap, rfl, hcap, hmx, hel⟩ := hsl
 refine enter Tryz.func133 rfl Tryz.ntmps133 rfl ?_
 have hS := St.start w0
 refine seq <| region <| sv (yAsg rfl) <| nil <| cwQ <| seq <| seq <| region <| sv (yMove rfl) ?_
 refine sv (yLen rfl Tryz.underlying125) <| sv (yMove rfl) <| nil <| cwQ <| block <| loop (fun f w zz => ∃ (k : Nat), f 0 = .slice a l.length cap ∧ f 1 = .func (.func g) #[] cl.toArray ∧ f 7 = .int .i64 (l.length : Int) ∧ f 8 = .int .i64 (k : Int) ∧ StX [] w0 w [] ∧ (k ≤ l.length) ∧ (idxF p l 0 = idxF p (l.drop k) k) ∧ zz = l.length - k) _ ⟨_, rfl, 0, rfl, rfl, rfl, rfl, hS, (Nat.zero_le _), (rfl), rfl⟩ ?_
 clear hS
 rintro f w _ ⟨k, h0, h1, h7, h8, hS, hk, hI, rfl⟩
 refine seq <| region <| sv (yLss h8 h7) <| nil <| cwQ <| seq ?_
 refine cond rfl (fun c9 => ?_) (fun c9 => ?_)
 ·
  simp only [BS, ne_eq] at c9
  refine skip <| cwQ <| seq <| block <| seq <| region <| sv (yMove h8) <| sv (yAsg rfl) <| nil ?_
  refine cwQ <| seq <| region ?_
  obtain ⟨x, hx, hd⟩ := drop_of (l := l) (k := k) (by omega)
  obtain ⟨b, o, cs, ha, hlen, hcs, hR⟩ := hel k (by omega)
  obtain rfl : x = l[k] := (List.getElem?_eq_some_iff.1 hx).2.symm
  obtain ⟨rfl, -⟩ := hR
  refine sv (yMove h1) <| sv (yMove h0) <| sv (yMove rfl) <| sv (yIxa rfl ha rfl Tryz.runUnderlying125 Tryz.sizeOf128 (by omega) (by omega)) <| sv (yLdA rfl Tryz.isAgg128 Tryz.sizeOf128 (hcs.ext hS.ext) rfl) ?_
  refine scallf rfl hcall (.cons rfl .nil) (hp _ _ (List.getElem_mem _) hS.ext) ?_
  rintro _ w ⟨rfl, hE⟩; replace hS := hS.step hE; clear hE
  refine nil <| cwQ ?_
  refine cond rfl (fun c16 => ?_) (fun c16 => ?_)
  ·
   refine seq <| region <| sv (yMove rfl) <| sv (yAsg rfl) <| nil <| cwQ ?_
   refine wp_ret (blockR (thenR (thenR (blockR (thenR ?_)))))
   exact retV (res1 rfl (by rw [hI, hd, idxF, if_pos c16]; rfl)) hS.ext
  ·
   refine skip <| cwQ <| region <| sv (yAdd h8 rfl ⟨by omega, by omega⟩) <| sv (yMove rfl) <| nil ?_
   exact ⟨_, _, rfl, ⟨k + 1, h0, h1, h7, rfl, hS, (by omega), (by rw [hI, hd, idxF, if_neg (by simp [c16])]; rfl), rfl⟩, by omega⟩
 ·
  simp only [BS, ne_eq] at c9
  refine exit <| cwQ <| seq <| region <| sv (yAsg rfl) <| nil <| cwQ ?_
  obtain rfl : k = l.length := by omega
  refine wp_ret ?_
  exact retV (res1 rfl (by rw [hI, List.drop_length]; rfl)) hS.ext
set_option maxHeartbeats 2000000 in
theorem c_DeleteFuncP {l : List (Span × Int)} {p : Span × Int → Bool} {a : Option Addr} {cap g : Nat} {cl : List Value} {w0 : World} (hr : w0.ownsRow 0 128 3 (.slice a l.length cap) l.length (l.flatMap pieceC)) (hcall : ∀ ys w, (callFunc g ys).run Tryz.prog w = .ok (.enter g ys) w) (hp : ∀ x w, x ∈ l → ExtX (Value.slice a l.length cap).ownBlock.toList w0 w → CV Tryz.prog g (.agg (pieceC x).toArray :: cl).toArray w (.bool (p x))) (hlen : l.length ≤ 1000) : CE Tryz.prog 73 #[.slice a l.length cap, .func (.func g) #[] cl.toArray] w0 (fun u w' => u = .slice a (l.filter fun x => !p x).length cap ∧ StX (Value.slice a l.length cap).ownBlock.toList w0 w' [rowI (.slice a (l.filter fun x => !p x).length cap) 128 3 (l.filter fun x => !p x).length ((l.filter fun x => !p x).flatMap pieceC)]) := by
 refine enter Tryz.func73 rfl Tryz.ntmps73 rfl ?_
 have hS := StX.startR hr
 refine seq <| region <| sv (yAsg rfl) <| nil <| cwQ <| seq <| region <| sv (yMove rfl) <| sv (yMove rfl) ?_
 refine scall Tryz.call133 (.cons rfl (.cons rfl .nil)) (c_IndexFuncP (row_sl flat3 (hS.row (.slice a l.length cap)) (fun _ _ => trivial)) hcall (fun x w hx e => hp x w hx (hS.extx.trans e))) ?_
 rintro _ w ⟨rfl, hE⟩; replace hS := hS.step hE; clear hE
 have hix := idxF_spec p l 0 (Int.le_refl 0)
 generalize idxF p l 0 = ix at hix ⊢
 refine sv (yAsg rfl) <| nil <| cwQ <| seq <| seq <| region <| sv (yMove rfl) <| sv (yEql rfl rfl) <| nil ?_
 refine cwQ ?_
 refine cond rfl (fun c12 => ?_) (fun c12 => ?_)
 ·
  simp only [BS, ne_eq] at c12
  have hfl : (l.filter fun x => !p x) = l := by
   rcases hix with ⟨-, h⟩ | ⟨k, -, h, -⟩
   ·
    exact h
   ·
    omega
  refine seq <| region <| sv (yMove rfl) <| sv (yAsg rfl) <| nil <| cwQ ?_
  refine wp_ret (thenR ?_)
  refine retQ (res1 rfl rfl) ?_
  rw [hfl]
  exact ⟨rfl, hS⟩
 ·
  simp only [BS, ne_eq] at c12
  obtain ⟨i0, hi0, hie, hi1, z, hz, hpz⟩ := hix.resolve_left (fun h => c12 h.1)
  obtain ⟨gb, rfl, -⟩ := row_get (hS.row (.slice a l.length cap)) (by omega)
  obtain rfl : ix = (i0 : Int) := by omega
  have hcap : l.length ≤ cap := by
   obtain ⟨g2, c2, e2, h2, -⟩ := row_some (hS.row (.slice (some ⟨gb, 0, none⟩) l.length cap)) (by omega)
   obtain ⟨-, rfl⟩ := slice_inj e2
   exact h2
  refine skip <| cwQ <| seq <| seq <| region <| sv (yMove rfl) <| sv (yAdd rfl rfl ⟨by omega, by omega⟩) <| sv (yAsg rfl) <| nil ?_
  refine cwQ <| block ?_
  have htl : (l.take i0).length = i0 := by simp; omega
  refine loop (fun f w zz => ∃ (ks js : PL) (j : Nat), f 0 = .slice (some ⟨gb, 0, none⟩) l.length cap ∧ f 1 = .func (.func g) #[] cl.toArray ∧ f 5 = .int .i64 (ks.length : Int) ∧ f 6 = .int .i64 (j : Int) ∧ StX (Value.slice (some ⟨gb, 0, none⟩) l.length cap).ownBlock.toList w0 w ([rowI (.slice (some ⟨gb, 0, none⟩) l.length cap) 128 3 l.length ((ks ++ js ++ l.drop j).flatMap pieceC)]) ∧ (j ≤ l.length) ∧ (ks.length + js.length = j) ∧ (js ≠ []) ∧ ((l.filter fun x => !p x) = ks ++ (l.drop j).filter fun x => !p x) ∧ zz = l.length - j) _ ⟨_, rfl, l.take i0, [z], i0 + 1, rfl, rfl, (by rw [htl]; exact rfl), rfl, (by rw [cut_at hz]; exact hS), (by omega), (by rw [htl]; rfl), (by simp), (filter_at hz hi1 hpz), rfl⟩ ?_
  clear hS
  rintro f w _ ⟨ks, js, j, h0, h1, h5, h6, hS, hj, hl, hne, hI, rfl⟩
  refine seq <| seq <| region <| sv (yMove h6) <| sv (yMove h0) <| sv (yLen rfl Tryz.underlying125) <| sv (yLss rfl rfl) <| nil <| cwQ ?_
  refine cond rfl (fun c19 => ?_) (fun c19 => ?_)
  ·
   simp only [BS, ne_eq] at c19
   obtain ⟨x, hx, hd⟩ := drop_of (l := l) (k := j) (by omega)
   refine skip <| cwQ <| seq <| block <| seq <| region <| sv (yMove h0) <| sv (yMove h6) <| sv (yIx0 rfl rfl Tryz.runUnderlying125 Tryz.sizeOf128 (by omega)) ?_
   refine sv (yLdA rfl Tryz.isAgg128 Tryz.sizeOf128 (flat_cells0 pieceC_len (row_at (hS.row (.slice (some ⟨gb, 0, none⟩) l.length cap)) rfl (by omega)) (mid_get hl hx)) rfl) ?_
   refine salloc hS Tryz.zeroValue128 rfl ?_; clear hS; intro b7 w hS
   refine sst hS rfl rfl Tryz.sizeOf128 rfl rfl rfl rfl ?_; clear hS; intro w hS
   refine nil <| cwQ <| seq <| region <| sv (yMove h1) <| sv (yLdBA rfl Tryz.isAgg128 Tryz.sizeOf128 (hS.at _) rfl rfl) ?_
   refine scallf rfl hcall (.cons rfl .nil) (hp x _ (List.mem_of_getElem? hx) hS.extx) ?_
   rintro _ w ⟨rfl, hE⟩; replace hS := hS.step hE; clear hE
   refine sv (yNot rfl) <| nil <| cwQ ?_
   refine cond rfl (fun c29 => ?_) (fun c29 => ?_)
   ·
    simp only [Bool.not_eq_true', Bool.not_eq_false', Bool.not_eq_true, Bool.not_eq_false] at c29
    refine seq <| region <| sv (yMove h0) <| sv (yMove h5) <| sv (yLdBA rfl Tryz.isAgg128 Tryz.sizeOf128 (hS.at _) rfl rfl) ?_
    refine sv (yIx0 rfl rfl Tryz.runUnderlying125 Tryz.sizeOf128 (by have := List.length_pos_iff.2 hne; omega)) ?_
    refine srst (m := l.length) (cap := cap) (sz := 3) hS rfl rfl Tryz.sizeOf128 rfl rfl (by have := List.length_pos_iff.2 hne; omega) rfl ?_; clear hS; intro w hS
    refine nil <| cwQ <| region <| sv (yMove h5) <| sv (yAdd rfl rfl ⟨by omega, by omega⟩) <| sv (yAsg rfl) <| nil <| cwQ <| region ?_
    refine sv (yMove h6) <| sv (yAdd rfl rfl ⟨by omega, by omega⟩) <| sv (yAsg rfl) <| nil ?_
    exact ⟨_, _, rfl, ⟨ks ++ [x], js.tail ++ [x], j + 1, h0, h1, (by rw [List.length_append]; exact rfl), rfl, (by rw [gap_out hx hne]; exact hS.sub (.cons _ lrQ)), (by omega), (by simp; have := List.length_pos_iff.2 hne; omega), (by simp), (by rw [hI, hd, List.filter_cons_of_pos (by simpa using c29)]; simp), rfl⟩, by omega⟩
   ·
    simp only [Bool.not_eq_true', Bool.not_eq_false', Bool.not_eq_true, Bool.not_eq_false] at c29
    refine skip <| cwQ <| region <| sv (yMove h6) <| sv (yAdd rfl rfl ⟨by omega, by omega⟩) <| sv (yAsg rfl) <| nil ?_
    exact ⟨_, _, rfl, ⟨ks, js ++ [x], j + 1, h0, h1, h5, rfl, (by rw [gap_in hx]; exact hS.sub (.cons _ lrQ)), (by omega), (by simp; omega), (by simp), (by rw [hI, hd, List.filter_cons_of_neg (by simp [c29])]), rfl⟩, by omega⟩
  ·
   simp only [BS, ne_eq] at c19
   obtain rfl : j = l.length := by omega
   rw [List.drop_length] at hI
   have hfin : (l.filter fun x => !p x) = ks := by rw [hI]; simp
   refine exit <| cwQ <| seq <| region <| sv (yMove h0) <| sv (yMove h5) <| sv (yTail rfl rfl Tryz.underlying125 Tryz.sizeOf128 (by omega)) ?_
   refine sclear (i := ks.length) (m := l.length) hS rfl Tryz.underlying125 Tryz.zeroValue128 rfl (by decide) (by decide) (by omega) ?_; clear hS; intro w hS
   refine nil <| cwQ <| seq <| region <| sv (yMove h0) <| sv (yMove h5) <| sv (yHead ⟨_, rfl⟩ rfl rfl Tryz.underlying125 Tryz.sizeOf128 (by omega)) <| sv (yAsg rfl) <| nil ?_
   refine cwQ <| wp_ret <| retQ (res1 rfl rfl) ?_
   rw [hfin]
   rw [List.append_assoc, take_flat] at hS
   exact ⟨rfl, hS⟩
end Go.Proofs.YtgidbailiababaaGreatDoor

/- part Sk17 -/
namespace Go.Proofs.YtgidbailiababaaGreatDoor
open Go Bx
theorem c_Sound1 {x : Span × Int} {b b2 len cap : Nat} {a : Option Addr} {T T2 : TypeId} {wrong : Int} {w0 : World} (hb : w0.heap[b]? = some (.cells [.slice a len cap].toArray T (0, 0))) (h2 : w0.heap[b2]? = some (.cells [.int .i64 wrong].toArray T2 (0, 0))) (hI : I64 ((len : Int) - wrong)) : CV Tryz.prog 75 #[.agg (pieceC x).toArray, .pointer (some ⟨b, 0, none⟩), .pointer (some ⟨b2, 0, none⟩)] w0 (.bool (decide (x.2 < (len : Int) - wrong))) := by
 refine enter Tryz.func75 rfl Tryz.ntmps75 rfl ?_
 have hS := St.start w0
 refine seq <| region ?_
 refine sbox hS rfl rfl ?_; clear hS; intro b3 w hS
 refine sv (yAsg rfl) <| nil <| cwQ <| seq <| region <| sv (fa128_1 rfl) <| sv (yLdB rfl Tryz.isAgg3 (hS.at _) rfl) <| sv (yLdB rfl Tryz.isAgg25 (hS.ext.get hb) rfl) <| sv (yLen rfl Tryz.underlying25) ?_
 refine sv (yLdB rfl Tryz.isAgg3 (hS.ext.get h2) rfl) <| sv (ySub rfl rfl hI) <| sv (yLss rfl rfl) <| sv (yAsg rfl) <| nil <| cwQ <| wp_ret ?_
 exact retV (res1 rfl rfl) hS.ext
set_option maxHeartbeats 2000000 in
theorem c_Sound {l : List Gauge} {v : Value} {wrong t now : Int} {w0 : World} (hl : Sl w0 5 RGauge v l) (hw : I64 wrong) (ht : I64 t) (hn : I64 now) : CV Tryz.prog 29 #[v, .int .i64 wrong, .int .i64 t, .int .i64 now] w0 (.tuple #[.agg (spanC (soundF l wrong t now).1).toArray, .int .i64 (soundF l wrong t now).2]) := by
 obtain ⟨a, cap, rfl, hcap, hmx, hel⟩ := id hl
 refine enter Tryz.func29 rfl Tryz.ntmps29 rfl ?_
 have hS := St.start w0
 refine seq <| region ?_
 refine sbox hS rfl rfl ?_; clear hS; intro b4 w hS
 refine sbox hS rfl rfl ?_; clear hS; intro b5 w hS
 refine salloc hS Tryz.zeroValue74 rfl ?_; clear hS; intro b8 w hS
 refine sv (yAsg rfl) <| nil <| cwQ <| seq <| region <| sv (yLdB rfl Tryz.isAgg25 (hS.at _) rfl) <| sv (yMove rfl) <| sv (yMove rfl) ?_
 refine scall Tryz.call71 (.cons rfl (.cons rfl (.cons rfl .nil))) (c_gauges (hl.ext RGauge.stays hS.ext) ht hn) ?_
 rintro _ w ⟨rfl, hE⟩; replace hS := hS.step hE; clear hE
 refine sv (yAsg rfl) <| nil <| cwQ <| seq <| block <| seq <| region <| sv (yMove rfl) <| sv (yNeq rfl rfl) ?_
 refine sv (yAsg rfl) <| nil <| cwQ ?_
 refine cond rfl (fun c16 => ?_) (fun c16 => ?_)
 ·
  have c16 : gaugesE l t now ≠ 0 := of_decide_eq_true c16
  have hfin := soundF_e (soundE_g (wrong := wrong) c16) c16
  refine seq <| region <| sv (yBuild Tryz.zeroValue74 rfl pl74 .nil rfl) <| sv (yMove rfl) ?_
  refine sst hS rfl rfl Tryz.sizeOf74 rfl rfl rfl rfl ?_; clear hS; intro w hS
  refine sv (yAsg rfl) <| nil <| cwQ ?_
  refine wp_ret (blockR (thenR ?_))
  exact retV (resV2 rfl (rc rfl Tryz.isAgg74 Tryz.sizeOf74 (hS.at _) (by rw [hfin]; rfl) rfl) (rt (eqI (by rw [hfin])))) hS.ext
 ·
  have c16 : ¬ gaugesE l t now ≠ 0 := of_decide_eq_false c16
  obtain ⟨h8, hok, hnd, htk⟩ := gaugesE_zero (Classical.not_not.1 c16)
  obtain ⟨htb, hnb⟩ := ticks2b htk
  refine seq <| region <| sv (yLdB rfl Tryz.isAgg3 (hS.at _) rfl) <| sv (yLdB rfl Tryz.isAgg25 (hS.at _) rfl) <| sv (yLen rfl Tryz.underlying25) <| sv (ySub rfl rfl ⟨by omega, by omega⟩) ?_
  refine scall Tryz.call72 (.cons rfl (.cons rfl (.cons rfl .nil))) c_out ?_
  rintro _ w ⟨rfl, hE⟩; replace hS := hS.step hE; clear hE
  refine sv (yAsg rfl) <| nil <| cwQ ?_
  refine cond rfl (fun c21 => ?_) (fun c21 => ?_)
  ·
   have hfin := soundF_e (soundE_w c16 c21) (by decide)
   refine seq <| region <| sv (yBuild Tryz.zeroValue74 rfl pl74 .nil rfl) ?_
   refine sst hS rfl rfl Tryz.sizeOf74 rfl rfl rfl rfl ?_; clear hS; intro w hS
   refine sv (yAsg rfl) <| nil <| cwQ ?_
   refine wp_ret (blockR (thenR ?_))
   exact retV (resV2 rfl (rc rfl Tryz.isAgg74 Tryz.sizeOf74 (hS.at _) (by rw [hfin]; rfl) rfl) (rt (eqI (by rw [hfin])))) hS.ext
  ·
   have h0 := soundE_ok c16 c21
   have hwb := outB_false.1 c21
   have hI : I64 ((l.length : Int) - wrong) := ⟨by omega, by omega⟩
   refine skip <| cwQ <| seq <| region <| sv (yLdB rfl Tryz.isAgg25 (hS.at _) rfl) <| sv (yMove rfl) <| sv (yMove rfl) ?_
   refine scall Tryz.call74 (.cons rfl (.cons rfl (.cons rfl .nil))) (c_pieces (hl.ext RGauge.stays hS.ext) hok htb (by omega)) ?_
   rintro pv w hM; replace hS := hS.call1 hM; clear hM; obtain ⟨ap, cp, rfl⟩ := row_shape (hS.row pv)
   have hpl := piecesF_len t now l
   have hb4 : b4 ∉ (Value.slice ap (piecesF t now l).length cp).ownBlock.toList := fun h => (hS.sub (M := [rowI (.slice ap (piecesF t now l).length cp) 128 3 (piecesF t now l).length ((piecesF t now l).flatMap pieceC), blk b4 [.slice a l.length cap] 25]) (.cons_cons _ (.cons _ (.cons _ (.cons_cons _ (List.nil_sublist _)))))).apart2 h (by simp [cellI])
   have hb5 : b5 ∉ (Value.slice ap (piecesF t now l).length cp).ownBlock.toList := fun h => (hS.sub (M := [rowI (.slice ap (piecesF t now l).length cp) 128 3 (piecesF t now l).length ((piecesF t now l).flatMap pieceC), blk b5 [.int .i64 wrong] 3]) (.cons_cons _ (.cons _ (.cons_cons _ (List.nil_sublist _))))).apart2 h (by simp [cellI])
   refine sv (yFn (.cons rfl (.cons rfl .nil))) ?_
   refine scall Tryz.call73 (.cons rfl (.cons rfl .nil)) (c_DeleteFuncP (l := piecesF t now l) (p := fun x => decide (x.2 < (l.length : Int) - wrong)) (cl := [.pointer (some ⟨b4, 0, none⟩), .pointer (some ⟨b5, 0, none⟩)]) (hS.row (.slice ap (piecesF t now l).length cp)) Tryz.call75 (fun x w _ e => c_Sound1 (e.get (hS.at b4) hb4) (e.get (hS.at b5) hb5) hI) (by omega)) ?_
   rintro u w ⟨hu, hM⟩
   have hu2 : u = .slice ap (enough ((l.length : Int) - wrong) (piecesF t now l)).length cp := hu
   subst hu2
   clear hu
   replace hM : StX (Value.slice ap (piecesF t now l).length cp).ownBlock.toList _ w [rowI (.slice ap (enough ((l.length : Int) - wrong) (piecesF t now l)).length cp) 128 3 (enough ((l.length : Int) - wrong) (piecesF t now l)).length ((enough ((l.length : Int) - wrong) (piecesF t now l)).flatMap pieceC)] := hM
   replace hS := hS.app (v := .slice ap (piecesF t now l).length cp) (v' := .slice ap (enough ((l.length : Int) - wrong) (piecesF t now l)).length cp) (hM.row _) hM.grown (.inl own_slice)
   clear hM hb4 hb5
   generalize hee : enough ((l.length : Int) - wrong) (piecesF t now l) = ee at hS ⊢
   refine sv (yAsg rfl) <| nil <| cwQ <| seq <| seq <| region <| sv (yMove rfl) <| sv (yLen rfl Tryz.underlying125) <| sv (yEql rfl rfl) ?_
   refine nil <| cwQ ?_
   refine cond rfl (fun c36 => ?_) (fun c36 => ?_)
   ·
    simp only [BS, ne_eq] at c36
    obtain rfl : ee = [] := List.eq_nil_of_length_eq_zero (by omega)
    have hfin : soundF l wrong t now = (⟨0, 0⟩, 9) := by rw [soundF_ok h0, hee]; rfl
    refine seq <| region <| sv (yBuild Tryz.zeroValue74 rfl pl74 .nil rfl) ?_
    refine sst hS rfl rfl Tryz.sizeOf74 rfl rfl rfl rfl ?_; clear hS; intro w hS
    refine sv (yAsg rfl) <| nil <| cwQ ?_
    refine wp_ret (thenR ?_)
    exact retV (resV2 rfl (rc rfl Tryz.isAgg74 Tryz.sizeOf74 (hS.at _) (by rw [hfin]; rfl) rfl) (rt (eqI (by rw [hfin])))) hS.ext
   ·
    simp only [BS, ne_eq] at c36
    have hne : ee ≠ [] := fun h => by rw [h] at c36; simp at c36
    have hpos := List.length_pos_iff.2 hne
    have heel : ee.length ≤ (piecesF t now l).length := by rw [← hee]; exact List.length_filter_le _ _
    have hfin : soundF l wrong t now = (⟨(ee.getD 0 (⟨0, 0⟩, 0)).1.lo, (ee.getD (ee.length - 1) (⟨0, 0⟩, 0)).1.hi⟩, 0) := by rw [soundF_ok h0, hee, soundP_some hne]
    obtain ⟨gp, rfl, -⟩ := row_get (hS.row (.slice ap ee.length cp)) hpos
    refine skip <| cwQ <| seq <| region_tail mixed 14 (by kernel_rfl) hS <| qv (fun w hS => (yMove rfl)) <| qv (fun w hS => (yIx0 (m := 0) rfl rfl Tryz.runUnderlying125 Tryz.sizeOf128 (by omega))) <| qv (fun w hS => (fa128_0 rfl)) <| qv (fun w hS => (fa74_0 rfl)) <| qv (fun w hS => (yLd rfl Tryz.isAgg3 ((flat_cells0 pieceC_len (row_at (hS.row (.slice (some ⟨gp, 0, none⟩) ee.length cp)) rfl (by omega)) (getD_some (d := (⟨0, 0⟩, 0)) hpos)).at (j := 0) rfl))) ?_
    refine qv (fun w hS => (yMove rfl)) <| qv (fun w hS => (yMove rfl)) <| qv (fun w hS => (yLen rfl Tryz.underlying125)) ?_
    refine qv (fun w hS => (Y.to (ySub rfl rfl ⟨by omega, by omega⟩) (show Value.int .i64 ((ee.length : Int) - 1) = .int .i64 ((ee.length - 1 : Nat) : Int) by congr 1; omega))) ?_
    refine qv (fun w hS => (yIx0 (m := ee.length - 1) rfl rfl Tryz.runUnderlying125 Tryz.sizeOf128 (by omega))) <| qv (fun w hS => (fa128_0 rfl)) <| qv (fun w hS => (fa74_1 rfl)) <| qv (fun w hS => (yLd rfl Tryz.isAgg3 ((flat_cells0 pieceC_len (row_at (hS.row (.slice (some ⟨gp, 0, none⟩) ee.length cp)) rfl (by omega)) (getD_some (d := (⟨0, 0⟩, 0)) (show ee.length - 1 < ee.length by omega))).at (j := 1) rfl))) <| qv (fun w hS => (yBuild Tryz.zeroValue74 rfl pl74 (.cons rfl rfl (.cons rfl rfl .nil)) rfl)) ?_
    clear hS; refine qtl (fun w hS => ?_)
    refine sst hS rfl rfl Tryz.sizeOf74 rfl rfl rfl rfl ?_; clear hS; intro w hS
    refine sv (yAsg rfl) <| nil <| cwQ <| wp_ret ?_
    exact retV (resV2 rfl (rc rfl Tryz.isAgg74 Tryz.sizeOf74 (hS.at _) (by rw [hfin]; rfl) rfl) (rt (eqI (by rw [hfin])))) hS.ext
end Go.Proofs.YtgidbailiababaaGreatDoor

/- part Sw1 -/
namespace Go.Proofs.YtgidbailiababaaGreatDoor
open Go Bx
theorem c_outS {a lo hi : Int} {w0 : World} : CV Tryz.prog 53 #[.int .i64 a, .int .i64 lo, .int .i64 hi] w0 (.bool (outB a lo hi)) := by
 refine enter Tryz.func53 rfl Tryz.ntmps53 rfl ?_
 have hS := St.start w0
 refine seq <| region <| sv (yAsg rfl) <| nil <| cwQ <| seq <| region <| sv (yMove rfl) <| sv (yMove rfl) ?_
 refine sv (yLss rfl rfl) <| sv (yMove rfl) ?_
 refine sg rfl rfl rfl (fun g => (yMove rfl)) (fun v11 g11 => ?_)
 refine sg rfl rfl rfl (fun g => (yMove rfl)) (fun v12 g12 => ?_)
 refine sg rfl rfl rfl (fun g => (yGtr (g11.1 g) (g12.1 g))) (fun v13 g13 => ?_)
 refine sv (yOr rfl rfl (fun hB => (g13.1 hB))) <| sv (yAsg rfl) <| nil <| cwQ <| wp_ret ?_
 exact retV (res1 rfl rfl) hS.ext
theorem c_IndexCtr {l : List Ctr} {p : Ctr → Bool} {v : Value} {g : Nat} {cl : List Value} {w0 : World} (hsl : Sl w0 4 RCtr v l) (hcall : ∀ ys w, (callFunc g ys).run Tryz.prog w = .ok (.enter g ys) w) (hp : ∀ x w, x ∈ l → Ext w0 w → CV Tryz.prog g (.agg (ctrC x).toArray :: cl).toArray w (.bool (p x))) : CV Tryz.prog 158 #[v, .func (.func g) #[] cl.toArray] w0 (.int .i64 (idxF p l 0)) := by
 obtain ⟨a, cap, rfl, hcap, hmx, hel⟩ := hsl
 refine enter Tryz.func158 rfl Tryz.ntmps158 rfl ?_
 have hS := St.start w0
 refine seq <| region <| sv (yAsg rfl) <| nil <| cwQ <| seq <| seq <| region <| sv (yMove rfl) ?_
 refine sv (yLen rfl Tryz.underlying26) <| sv (yMove rfl) <| nil <| cwQ <| block <| loop (fun f w zz => ∃ (k : Nat), f 0 = .slice a l.length cap ∧ f 1 = .func (.func g) #[] cl.toArray ∧ f 7 = .int .i64 (l.length : Int) ∧ f 8 = .int .i64 (k : Int) ∧ StX [] w0 w [] ∧ (k ≤ l.length) ∧ (idxF p l 0 = idxF p (l.drop k) k) ∧ zz = l.length - k) _ ⟨_, rfl, 0, rfl, rfl, rfl, rfl, hS, (Nat.zero_le _), (rfl), rfl⟩ ?_
 clear hS
 rintro f w _ ⟨k, h0, h1, h7, h8, hS, hk, hI, rfl⟩
 refine seq <| region <| sv (yLss h8 h7) <| nil <| cwQ <| seq ?_
 refine cond rfl (fun c9 => ?_) (fun c9 => ?_)
 ·
  simp only [BS, ne_eq] at c9
  refine skip <| cwQ <| seq <| block <| seq <| region <| sv (yMove h8) <| sv (yAsg rfl) <| nil ?_
  refine cwQ <| seq <| region ?_
  obtain ⟨x, hx, hd⟩ := drop_of (l := l) (k := k) (by omega)
  obtain ⟨b, o, cs, ha, hlen, hcs, hR⟩ := hel k (by omega)
  obtain rfl : x = l[k] := (List.getElem?_eq_some_iff.1 hx).2.symm
  obtain ⟨rfl, -⟩ := hR
  refine sv (yMove h1) <| sv (yMove h0) <| sv (yMove rfl) <| sv (yIxa rfl ha rfl Tryz.runUnderlying26 Tryz.sizeOf57 (by omega) (by omega)) <| sv (yLdA rfl Tryz.isAgg57 Tryz.sizeOf57 (hcs.ext hS.ext) rfl) ?_
  refine scallf rfl hcall (.cons rfl .nil) (hp _ _ (List.getElem_mem _) hS.ext) ?_
  rintro _ w ⟨rfl, hE⟩; replace hS := hS.step hE; clear hE
  refine nil <| cwQ ?_
  refine cond rfl (fun c16 => ?_) (fun c16 => ?_)
  ·
   refine seq <| region <| sv (yMove rfl) <| sv (yAsg rfl) <| nil <| cwQ ?_
   refine wp_ret (blockR (thenR (thenR (blockR (thenR ?_)))))
   exact retV (res1 rfl (by rw [hI, hd, idxF, if_pos c16]; rfl)) hS.ext
  ·
   refine skip <| cwQ <| region <| sv (yAdd h8 rfl ⟨by omega, by omega⟩) <| sv (yMove rfl) <| nil ?_
   exact ⟨_, _, rfl, ⟨k + 1, h0, h1, h7, rfl, hS, (by omega), (by rw [hI, hd, idxF, if_neg (by simp [c16])]; rfl), rfl⟩, by omega⟩
 ·
  simp only [BS, ne_eq] at c9
  refine exit <| cwQ <| seq <| region <| sv (yAsg rfl) <| nil <| cwQ ?_
  obtain rfl : k = l.length := by omega
  refine wp_ret ?_
  exact retV (res1 rfl (by rw [hI, List.drop_length]; rfl)) hS.ext
theorem c_ContainsCtr {l : List Ctr} {p : Ctr → Bool} {v : Value} {g : Nat} {cl : List Value} {w0 : World} (hsl : Sl w0 4 RCtr v l) (hcall : ∀ ys w, (callFunc g ys).run Tryz.prog w = .ok (.enter g ys) w) (hp : ∀ x w, x ∈ l → Ext w0 w → CV Tryz.prog g (.agg (ctrC x).toArray :: cl).toArray w (.bool (p x))) : CV Tryz.prog 103 #[v, .func (.func g) #[] cl.toArray] w0 (.bool (l.any p)) := by
 refine enter Tryz.func103 rfl Tryz.ntmps103 rfl ?_
 have hS := St.start w0
 refine seq <| region <| sv (yAsg rfl) <| nil <| cwQ <| seq <| region <| sv (yMove rfl) <| sv (yMove rfl) ?_
 refine scall Tryz.call158 (.cons rfl (.cons rfl .nil)) (c_IndexCtr hsl hcall hp) ?_
 rintro _ w ⟨rfl, hE⟩; replace hS := hS.step hE; clear hE
 refine sv (yGeq rfl rfl) <| sv (yAsg rfl) <| nil <| cwQ <| wp_ret ?_
 exact retV (res1 rfl (by rw [← idxF_any p l 0 (Int.le_refl 0)]; rfl)) hS.ext
theorem c_IndexFct {l : List Fct} {p : Fct → Bool} {v : Value} {g : Nat} {cl : List Value} {w0 : World} (hsl : Sl w0 4 RFct v l) (hcall : ∀ ys w, (callFunc g ys).run Tryz.prog w = .ok (.enter g ys) w) (hp : ∀ x cs w, x ∈ l → Ext w0 w → RFct w cs x → CV Tryz.prog g (.agg cs.toArray :: cl).toArray w (.bool (p x))) : CV Tryz.prog 162 #[v, .func (.func g) #[] cl.toArray] w0 (.int .i64 (idxF p l 0)) := by
 obtain ⟨a, cap, rfl, hcap, hmx, hel⟩ := hsl
 refine enter Tryz.func162 rfl Tryz.ntmps162 rfl ?_
 have hS := St.start w0
 refine seq <| region <| sv (yAsg rfl) <| nil <| cwQ <| seq <| seq <| region <| sv (yMove rfl) ?_
 refine sv (yLen rfl Tryz.underlying27) <| sv (yMove rfl) <| nil <| cwQ <| block <| loop (fun f w zz => ∃ (k : Nat), f 0 = .slice a l.length cap ∧ f 1 = .func (.func g) #[] cl.toArray ∧ f 7 = .int .i64 (l.length : Int) ∧ f 8 = .int .i64 (k : Int) ∧ StX [] w0 w [] ∧ (k ≤ l.length) ∧ (idxF p l 0 = idxF p (l.drop k) k) ∧ zz = l.length - k) _ ⟨_, rfl, 0, rfl, rfl, rfl, rfl, hS, (Nat.zero_le _), (rfl), rfl⟩ ?_
 clear hS
 rintro f w _ ⟨k, h0, h1, h7, h8, hS, hk, hI, rfl⟩
 refine seq <| region <| sv (yLss h8 h7) <| nil <| cwQ <| seq ?_
 refine cond rfl (fun c9 => ?_) (fun c9 => ?_)
 ·
  simp only [BS, ne_eq] at c9
  refine skip <| cwQ <| seq <| block <| seq <| region <| sv (yMove h8) <| sv (yAsg rfl) <| nil ?_
  refine cwQ <| seq <| region ?_
  obtain ⟨x, hx, hd⟩ := drop_of (l := l) (k := k) (by omega)
  obtain ⟨b, o, cs, ha, hlen, hcs, hR⟩ := hel k (by omega)
  obtain rfl : x = l[k] := (List.getElem?_eq_some_iff.1 hx).2.symm
  refine sv (yMove h1) <| sv (yMove h0) <| sv (yMove rfl) <| sv (yIxa rfl ha rfl Tryz.runUnderlying27 Tryz.sizeOf61 (by omega) (by omega)) <| sv (yLdA rfl Tryz.isAgg61 Tryz.sizeOf61 (hcs.ext hS.ext) hlen) ?_
  refine scallf rfl hcall (.cons rfl .nil) (hp _ _ _ (List.getElem_mem _) hS.ext (RFct.stays _ _ _ _ hS.ext hR)) ?_
  rintro _ w ⟨rfl, hE⟩; replace hS := hS.step hE; clear hE
  refine nil <| cwQ ?_
  refine cond rfl (fun c16 => ?_) (fun c16 => ?_)
  ·
   refine seq <| region <| sv (yMove rfl) <| sv (yAsg rfl) <| nil <| cwQ ?_
   refine wp_ret (blockR (thenR (thenR (blockR (thenR ?_)))))
   exact retV (res1 rfl (by rw [hI, hd, idxF, if_pos c16]; rfl)) hS.ext
  ·
   refine skip <| cwQ <| region <| sv (yAdd h8 rfl ⟨by omega, by omega⟩) <| sv (yMove rfl) <| nil ?_
   exact ⟨_, _, rfl, ⟨k + 1, h0, h1, h7, rfl, hS, (by omega), (by rw [hI, hd, idxF, if_neg (by simp [c16])]; rfl), rfl⟩, by omega⟩
 ·
  simp only [BS, ne_eq] at c9
  refine exit <| cwQ <| seq <| region <| sv (yAsg rfl) <| nil <| cwQ ?_
  obtain rfl : k = l.length := by omega
  refine wp_ret ?_
  exact retV (res1 rfl (by rw [hI, List.drop_length]; rfl)) hS.ext
theorem c_ContainsFct {l : List Fct} {p : Fct → Bool} {v : Value} {g : Nat} {cl : List Value} {w0 : World} (hsl : Sl w0 4 RFct v l) (hcall : ∀ ys w, (callFunc g ys).run Tryz.prog w = .ok (.enter g ys) w) (hp : ∀ x cs w, x ∈ l → Ext w0 w → RFct w cs x → CV Tryz.prog g (.agg cs.toArray :: cl).toArray w (.bool (p x))) : CV Tryz.prog 111 #[v, .func (.func g) #[] cl.toArray] w0 (.bool (l.any p)) := by
 refine enter Tryz.func111 rfl Tryz.ntmps111 rfl ?_
 have hS := St.start w0
 refine seq <| region <| sv (yAsg rfl) <| nil <| cwQ <| seq <| region <| sv (yMove rfl) <| sv (yMove rfl) ?_
 refine scall Tryz.call162 (.cons rfl (.cons rfl .nil)) (c_IndexFct hsl hcall hp) ?_
 rintro _ w ⟨rfl, hE⟩; replace hS := hS.step hE; clear hE
 refine sv (yGeq rfl rfl) <| sv (yAsg rfl) <| nil <| cwQ <| wp_ret ?_
 exact retV (res1 rfl (by rw [← idxF_any p l 0 (Int.le_refl 0)]; rfl)) hS.ext
theorem c_IndexRow {l : List (List Int)} {p : (List Int) → Bool} {v : Value} {g : Nat} {cl : List Value} {w0 : World} (hsl : Sl w0 1 RRow v l) (hcall : ∀ ys w, (callFunc g ys).run Tryz.prog w = .ok (.enter g ys) w) (hp : ∀ x x0 w, x ∈ l → Ext w0 w → RRow w [x0] x → CV Tryz.prog g (x0 :: cl).toArray w (.bool (p x))) : CV Tryz.prog 159 #[v, .func (.func g) #[] cl.toArray] w0 (.int .i64 (idxF p l 0)) := by
 obtain ⟨a, cap, rfl, hcap, hmx, hel⟩ := hsl
 refine enter Tryz.func159 rfl Tryz.ntmps159 rfl ?_
 have hS := St.start w0
 refine seq <| region <| sv (yAsg rfl) <| nil <| cwQ <| seq <| seq <| region <| sv (yMove rfl) ?_
 refine sv (yLen rfl Tryz.underlying59) <| sv (yMove rfl) <| nil <| cwQ <| block <| loop (fun f w zz => ∃ (k : Nat), f 0 = .slice a l.length cap ∧ f 1 = .func (.func g) #[] cl.toArray ∧ f 7 = .int .i64 (l.length : Int) ∧ f 8 = .int .i64 (k : Int) ∧ StX [] w0 w [] ∧ (k ≤ l.length) ∧ (idxF p l 0 = idxF p (l.drop k) k) ∧ zz = l.length - k) _ ⟨_, rfl, 0, rfl, rfl, rfl, rfl, hS, (Nat.zero_le _), (rfl), rfl⟩ ?_
 clear hS
 rintro f w _ ⟨k, h0, h1, h7, h8, hS, hk, hI, rfl⟩
 refine seq <| region <| sv (yLss h8 h7) <| nil <| cwQ <| seq ?_
 refine cond rfl (fun c9 => ?_) (fun c9 => ?_)
 ·
  simp only [BS, ne_eq] at c9
  refine skip <| cwQ <| seq <| block <| seq <| region <| sv (yMove h8) <| sv (yAsg rfl) <| nil ?_
  refine cwQ <| seq <| region ?_
  obtain ⟨x, hx, hd⟩ := drop_of (l := l) (k := k) (by omega)
  obtain ⟨b, o, cs, ha, hlen, hcs, hR⟩ := hel k (by omega)
  obtain rfl : x = l[k] := (List.getElem?_eq_some_iff.1 hx).2.symm
  obtain ⟨x0, rfl⟩ : ∃ x0, cs = [x0] := List.length_eq_one_iff.1 hlen
  refine sv (yMove h1) <| sv (yMove h0) <| sv (yMove rfl) <| sv (yIxa rfl ha rfl Tryz.runUnderlying59 Tryz.sizeOf39 (by omega) (by omega)) <| sv (yLd rfl Tryz.isAgg39 (hcs.ext hS.ext).one) ?_
  refine scallf rfl hcall (.cons rfl .nil) (hp _ _ _ (List.getElem_mem _) hS.ext (RRow.stays _ _ _ _ hS.ext hR)) ?_
  rintro _ w ⟨rfl, hE⟩; replace hS := hS.step hE; clear hE
  refine nil <| cwQ ?_
  refine cond rfl (fun c16 => ?_) (fun c16 => ?_)
  ·
   refine seq <| region <| sv (yMove rfl) <| sv (yAsg rfl) <| nil <| cwQ ?_
   refine wp_ret (blockR (thenR (thenR (blockR (thenR ?_)))))
   exact retV (res1 rfl (by rw [hI, hd, idxF, if_pos c16]; rfl)) hS.ext
  ·
   refine skip <| cwQ <| region <| sv (yAdd h8 rfl ⟨by omega, by omega⟩) <| sv (yMove rfl) <| nil ?_
   exact ⟨_, _, rfl, ⟨k + 1, h0, h1, h7, rfl, hS, (by omega), (by rw [hI, hd, idxF, if_neg (by simp [c16])]; rfl), rfl⟩, by omega⟩
 ·
  simp only [BS, ne_eq] at c9
  refine exit <| cwQ <| seq <| region <| sv (yAsg rfl) <| nil <| cwQ ?_
  obtain rfl : k = l.length := by omega
  refine wp_ret ?_
  exact retV (res1 rfl (by rw [hI, List.drop_length]; rfl)) hS.ext
theorem c_ContainsRow {l : List (List Int)} {p : (List Int) → Bool} {v : Value} {g : Nat} {cl : List Value} {w0 : World} (hsl : Sl w0 1 RRow v l) (hcall : ∀ ys w, (callFunc g ys).run Tryz.prog w = .ok (.enter g ys) w) (hp : ∀ x x0 w, x ∈ l → Ext w0 w → RRow w [x0] x → CV Tryz.prog g (x0 :: cl).toArray w (.bool (p x))) : CV Tryz.prog 105 #[v, .func (.func g) #[] cl.toArray] w0 (.bool (l.any p)) := by
 refine enter Tryz.func105 rfl Tryz.ntmps105 rfl ?_
 have hS := St.start w0
 refine seq <| region <| sv (yAsg rfl) <| nil <| cwQ <| seq <| region <| sv (yMove rfl) <| sv (yMove rfl) ?_
 refine scall Tryz.call159 (.cons rfl (.cons rfl .nil)) (c_IndexRow hsl hcall hp) ?_
 rintro _ w ⟨rfl, hE⟩; replace hS := hS.step hE; clear hE
 refine sv (yGeq rfl rfl) <| sv (yAsg rfl) <| nil <| cwQ <| wp_ret ?_
 exact retV (res1 rfl (by rw [← idxF_any p l 0 (Int.le_refl 0)]; rfl)) hS.ext
set_option maxHeartbeats 1000000 in
theorem c_gausS {t : Sgt} {cs : List Value} {w0 : World} (h : RSgt w0 cs t) : CV Tryz.prog 55 #[.agg cs.toArray] w0 (.tuple #[.int .i64 (gausE t).1, .int .i64 (gausE t).2]) := by
 obtain ⟨cv, gv, tv, fv, rfl, hT, hG, hw64, hf64, hk64, hC, hF, hl64, hm64, hr64, hq64⟩ := id h
 obtain ⟨ag, cg, rfl, hgcap, hgmx, hgel⟩ := id hG
 obtain ⟨ak, ck, rfl, hkcap, hkmx, hkel⟩ := id hC
 obtain ⟨ae, ce, rfl, hecap, hemx, heel⟩ := id hF
 refine enter Tryz.func55 rfl Tryz.ntmps55 rfl ?_
 have hS := St.start w0
 refine seq <| region ?_
 refine sbox hS rfl rfl ?_; clear hS; intro b1 w hS
 refine sv (yAsg rfl) <| sv (yAsg rfl) <| nil <| cwQ <| seq <| seq <| region <| sv (fa29_1 rfl) <| sv (yLdB rfl Tryz.isAgg25 (hS.at _) rfl) ?_
 refine sv (yLen rfl Tryz.underlying25) <| sv (yGtr rfl rfl) <| nil <| cwQ ?_
 refine cond rfl (fun c13 => ?_) (fun c13 => ?_)
 ·
  simp only [BS, ne_eq] at c13
  refine seq <| region <| sv (yAsg rfl) <| sv (yAsg rfl) <| nil <| cwQ ?_
  have hfin : gausE t = (0, 3) := by unfold gausE; rw [if_pos c13]
  refine wp_ret (thenR ?_)
  exact retV (res2 rfl (by rw [hfin]; rfl) (by rw [hfin]; rfl)) hS.ext
 ·
  simp only [BS, ne_eq] at c13
  refine skip <| cwQ <| seq <| region ?_
  refine smkmap Value.string hS ?_; clear hS; intro b14 w hS
  refine sv (yAsg rfl) <| nil <| cwQ <| seq <| seq <| region <| sv (fa29_1 rfl) <| sv (yLdB rfl Tryz.isAgg25 (hS.at _) rfl) <| sv (yLen rfl Tryz.underlying25) ?_
  refine sv (yMove rfl) <| nil <| cwQ <| block <| loop (fun f w zz => ∃ (k : Nat), f 1 = .pointer (some ⟨b1, 0, none⟩) ∧ f 4 = .map (some b14) ∧ f 16 = .slice ag t.gauges.length cg ∧ f 17 = .int .i64 (t.gauges.length : Int) ∧ f 18 = .int .i64 (k : Int) ∧ StX [] w0 w [mapI b14 Value.string (seenM ((t.gauges.take k).map (·.name))), blk b1 [.int .i64 t.table.mean, cv, .slice ag t.gauges.length cg, .int .i64 t.wrong, .int .i64 t.frm, .int .i64 t.ticks, .slice ak t.ctrs.length ck, .slice ae t.fcs.length ce, .int .i64 t.least, .int .i64 t.most, .int .i64 t.rate, .int .i64 t.quorum] 29] ∧ (k ≤ t.gauges.length) ∧ (firstN (gE t.gauges) t.gauges.length 0 = firstN (gE t.gauges) (t.gauges.length - k) k) ∧ zz = t.gauges.length - k) _ ⟨_, rfl, 0, rfl, rfl, rfl, rfl, rfl, hS, (Nat.zero_le _), (rfl), rfl⟩ ?_
  clear hS
  rintro f w _ ⟨k, h1, h4, h16, h17, h18, hS, hk, hI, rfl⟩
  refine seq <| region <| sv (yLss h18 h17) <| nil <| cwQ <| seq ?_
  refine cond rfl (fun c19 => ?_) (fun c19 => ?_)
  ·
   simp only [BS, ne_eq] at c19
   refine skip <| cwQ <| seq <| block <| seq <| region ?_
   obtain ⟨g, hx, hd⟩ := drop_of (l := t.gauges) (k := k) (by omega)
   obtain ⟨b, o, cs, ha, hlen, hcs, hR⟩ := hgel (k) (by omega)
   obtain rfl : g = t.gauges[k] := (List.getElem?_eq_some_iff.1 hx).2.symm
   generalize t.gauges[k] = g at hx hd hR
   have hg := hR
   obtain ⟨dv, rv, hcse, hnm, hge, hgr, hsd, hsr⟩ := id hg
   subst hcse
   obtain ⟨a1, cap1, rfl, hcap1, hmx1, hel1⟩ := id hsd
   obtain ⟨a2, cap2, rfl, hcap2, hmx2, hel2⟩ := id hsr
   refine sv (yMove h18) <| sv (yIxa h16 ha h18 Tryz.runUnderlying25 Tryz.sizeOf68 (by omega) (by omega)) <| sv (yLdA rfl Tryz.isAgg68 Tryz.sizeOf68 (hcs.ext hS.ext) hlen) ?_
   refine salloc hS Tryz.zeroValue68 rfl ?_; clear hS; intro b6 w hS
   refine sv (yAsg rfl) ?_
   refine sst hS rfl rfl Tryz.sizeOf68 rfl rfl rfl rfl ?_; clear hS; intro w hS
   refine nil <| cwQ <| seq <| region <| sv (yLdBA rfl Tryz.isAgg68 Tryz.sizeOf68 (hS.at _) rfl rfl) ?_
   refine scall Tryz.call101 (.cons rfl .nil) (c_CheckGauge (hg.ext hS.ext)) ?_
   rintro _ w ⟨rfl, hE⟩; replace hS := hS.step hE; clear hE
   refine sv (yMove rfl) <| sv (yExt rfl rfl) <| sv (yExt rfl rfl) <| sv (yExt rfl rfl) <| sv (yAsg rfl) <| sv (yAsg rfl) <| sv (yAsg rfl) <| nil <| cwQ ?_
   refine seq <| seq <| region <| sv (yMove rfl) <| sv (yEql rfl rfl) <| sv (yMove rfl) ?_
   refine sg rfl rfl rfl (fun g => (yMove h4)) (fun v32 g32 => ?_)
   refine sg rfl rfl rfl (fun g => (fa68_0 rfl)) (fun v33 g33 => ?_)
   refine sg rfl rfl rfl (fun g => (yLdB (g33.1 g) Tryz.isAgg9 (hS.at _) rfl)) (fun v34 g34 => ?_)
   refine sg rfl rfl rfl (fun g => (yLook Value.string (g32.1 g) (g34.1 g) Tryz.runUnderlying153 (keyStr Tryz.underlying9) Tryz.zeroValue4 (hS.is b14) (getM_seen _ _))) (fun v35 g35 => ?_)
   refine sv (yAnd rfl (fun hB => (g35.1 hB)) rfl) <| nil <| cwQ ?_
   refine cond rfl (fun c36 => ?_) (fun c36 => ?_)
   ·
    simp only [BS, ne_eq] at c36
    refine region <| sv (yAsg rfl) <| nil <| cwQ <| seq <| seq <| region <| sv (yMove rfl) <| sv (yNeq rfl rfl) ?_
    refine nil <| cwQ ?_
    refine cond rfl (fun c38 => ?_) (fun c38 => ?_)
    ·
     simp only [BS, ne_eq] at c38
     refine seq <| region <| sv (yMove rfl) <| sv (yMove rfl) <| sv (yAsg rfl) <| sv (yAsg rfl) <| nil <| cwQ ?_
     have hgz := gE_5 hx c36.1 c36.2
     have hN : firstN (gE t.gauges) t.gauges.length 0 = ((k : Int), 5) := by rw [hI, firstN_at (by omega) (by rw [hgz]; exact (show (5 : Int) ≠ 0 by decide)), hgz]
     have hfin : gausE t = ((k : Int), 5) := by unfold gausE; rw [if_neg c13, if_pos (by rw [hN]; exact (show (5 : Int) ≠ 0 by decide)), hN]
     refine wp_ret (thenR (blockR (thenR (thenR (blockR (thenR ?_))))))
     exact retV (res2 rfl (by rw [hfin]; rfl) (by rw [hfin]; rfl)) hS.ext
    ·
     simp only [BS, ne_eq] at c38
     exact absurd c38 (by decide)
   ·
    simp only [BS, ne_eq] at c36
    refine skip <| cwQ <| seq <| seq <| region <| sv (yMove rfl) <| sv (yNeq rfl rfl) <| nil <| cwQ ?_
    refine cond rfl (fun c38 => ?_) (fun c38 => ?_)
    ·
     simp only [BS, ne_eq] at c38
     refine seq <| region <| sv (yMove rfl) <| sv (yMove rfl) <| sv (yAsg rfl) <| sv (yAsg rfl) <| nil <| cwQ ?_
     have hgz := gE_g hx c38
     have hN : firstN (gE t.gauges) t.gauges.length 0 = ((k : Int), (checkG g).2.2) := by rw [hI, firstN_at (by omega) (by rw [hgz]; exact c38), hgz]
     have hfin : gausE t = ((k : Int), (checkG g).2.2) := by unfold gausE; rw [if_neg c13, if_pos (by rw [hN]; exact c38), hN]
     refine wp_ret (thenR (blockR (thenR (thenR (blockR (thenR ?_))))))
     exact retV (res2 rfl (by rw [hfin]; rfl) (by rw [hfin]; rfl)) hS.ext
    ·
     simp only [BS, ne_eq] at c38
     have hm0 : memB g.name ((t.gauges.take k).map (·.name)) = false := c36.resolve_left (fun q => q c38)
     refine skip <| cwQ <| region <| sv (yMove h4) <| sv (fa68_0 rfl) <| sv (yLdB rfl Tryz.isAgg9 (hS.at _) rfl) ?_
     refine smapset Value.string hS rfl rfl rfl Tryz.runUnderlying153 (keyStr Tryz.underlying9) ?_; clear hS; intro w hS
     refine nil <| cwQ <| region <| sv (yAdd h18 rfl ⟨by omega, by omega⟩) <| sv (yMove rfl) <| nil ?_
     exact ⟨_, _, rfl, ⟨k + 1, h1, h4, h16, h17, rfl, (by rw [take_snoc hx, List.map_append, List.map_cons, List.map_nil, ← setM_seen _ _ (fun k => by rw [memB_iff.2 k] at hm0; cases hm0)]; exact hS.sub (.cons _ lrQ)), (by omega), (by rw [hI]; exact firstN_go (by omega) (gE_0 hx c38 hm0)), rfl⟩, by omega⟩
  ·
   simp only [BS, ne_eq] at c19
   obtain rfl : k = t.gauges.length := by omega
   have he : (firstN (gE t.gauges) t.gauges.length 0).2 = 0 := by rw [hI, Nat.sub_self]; rfl
   refine exit <| cwQ <| seq <| seq <| region <| sv (fa29_2 h1) <| sv (yLdB rfl Tryz.isAgg3 (hS.at _) rfl) <| sv (yNeq rfl rfl) <| sv (yMove rfl) ?_
   refine sg rfl rfl rfl (fun g => (fa29_2 h1)) (fun v49 g49 => ?_)
   refine sg rfl rfl rfl (fun g => (yLdB (g49.1 g) Tryz.isAgg3 (hS.at _) rfl)) (fun v50 g50 => ?_)
   refine sg rfl rfl rfl (fun g => (fa29_1 h1)) (fun v51 g51 => ?_)
   refine sg rfl rfl rfl (fun g => (yLdB (g51.1 g) Tryz.isAgg25 (hS.at _) rfl)) (fun v52 g52 => ?_)
   refine sg rfl rfl rfl (fun g => (yLen (g52.1 g) Tryz.underlying25)) (fun v53 g53 => ?_)
   refine sg rfl rfl rfl (fun g => (ySub (g53.1 g) rfl ⟨by omega, by omega⟩)) (fun v54 g54 => ?_)
   refine sgc hS rfl rfl rfl Tryz.call53 (fun g => (.cons (g50.1 g) (.cons rfl (.cons (g54.1 g) .nil)))) (fun g => c_outS) ?_; clear hS; intro v55 w hS g55
   refine sv (yAnd rfl (fun hB => (g55.1 hB)) rfl) <| nil <| cwQ ?_
   refine cond rfl (fun c56 => ?_) (fun c56 => ?_)
   ·
    refine seq <| region <| sv (yAsg rfl) <| sv (yAsg rfl) <| nil <| cwQ ?_
    have hfin : gausE t = (0, 7) := by unfold gausE; rw [if_neg c13, if_neg (fun k => k he), if_pos (show wrongB t = true from c56)]
    refine wp_ret (thenR ?_)
    exact retV (res2 rfl (by rw [hfin]; rfl) (by rw [hfin]; rfl)) hS.ext
   ·
    refine skip <| cwQ <| seq <| region <| sv (yAsg rfl) <| sv (yAsg rfl) <| nil <| cwQ ?_
    have hfin : gausE t = (0, 0) := by unfold gausE; rw [if_neg c13, if_neg (fun k => k he), if_neg (show ¬ wrongB t = true from by rw [show wrongB t = false from c56]; decide)]
    refine wp_ret ?_
    exact retV (res2 rfl (by rw [hfin]; rfl) (by rw [hfin]; rfl)) hS.ext
end Go.Proofs.YtgidbailiababaaGreatDoor

/- part Sw2 -/
namespace Go.Proofs.YtgidbailiababaaGreatDoor
open Go Bx
theorem c_centS1 {x z : Ctr} {b : Nat} {T : TypeId} {w0 : World} (hb : w0.heap[b]? = some (.cells [.string z.name, .int .i64 z.late, .int .i64 z.base, .int .i64 z.growth].toArray T (0, 0))) : CV Tryz.prog 104 #[.agg (ctrC x).toArray, .pointer (some ⟨b, 0, none⟩)] w0 (.bool (decide (x.name = z.name))) := by
 refine enter Tryz.func104 rfl Tryz.ntmps104 rfl ?_
 have hS := St.start w0
 refine seq <| region ?_
 refine sbox hS rfl rfl ?_; clear hS; intro b2 w hS
 refine sv (yAsg rfl) <| nil <| cwQ <| seq <| region <| sv (fa57_0 rfl) <| sv (yLdB rfl Tryz.isAgg9 (hS.at _) rfl) <| sv (fa57_0 rfl) <| sv (yLdB rfl Tryz.isAgg9 (hS.ext.get hb) rfl) ?_
 refine sv (ySEq rfl rfl) <| sv (yAsg rfl) <| nil <| cwQ <| wp_ret ?_
 exact retV (res1 rfl rfl) hS.ext
set_option maxHeartbeats 1000000 in
theorem c_centS {t : Sgt} {cs : List Value} {i : Nat} {w0 : World} (h : RSgt w0 cs t) (hi : i < t.ctrs.length) : CV Tryz.prog 56 #[.agg cs.toArray, .int .i64 (i : Int)] w0 (.int .i64 (cE t.ctrs i)) := by
 obtain ⟨cv, gv, tv, fv, rfl, hT, hG, hw64, hf64, hk64, hC, hF, hl64, hm64, hr64, hq64⟩ := id h
 obtain ⟨ag, cg, rfl, hgcap, hgmx, hgel⟩ := id hG
 obtain ⟨ak, ck, rfl, hkcap, hkmx, hkel⟩ := id hC
 obtain ⟨ae, ce, rfl, hecap, hemx, heel⟩ := id hF
 obtain ⟨bx, ox, cx, hax, hlx, hcx, hRx, -⟩ := sl_at hC (ctr_get hi)
 obtain ⟨rfl, hnm, -⟩ := hRx
 refine enter Tryz.func56 rfl Tryz.ntmps56 rfl ?_
 have hS := St.start w0
 refine seq <| region ?_
 refine sbox hS rfl rfl ?_; clear hS; intro b2 w hS
 refine sv (yAsg rfl) <| nil <| cwQ <| seq <| region <| sv (fa29_5 rfl) <| sv (yLdB rfl Tryz.isAgg26 (hS.at _) rfl) <| sv (yMove rfl) <| sv (yIxa rfl hax rfl Tryz.runUnderlying26 Tryz.sizeOf57 (by omega) (by omega)) ?_
 refine sv (yLdA rfl Tryz.isAgg57 Tryz.sizeOf57 (hcx.ext hS.ext) rfl) ?_
 refine salloc hS Tryz.zeroValue57 rfl ?_; clear hS; intro b5 w hS
 refine sst hS rfl rfl Tryz.sizeOf57 rfl rfl rfl rfl ?_; clear hS; intro w hS
 refine nil <| cwQ <| seq <| block <| seq <| region <| sv (fa57_0 rfl) <| sv (yLdB rfl Tryz.isAgg9 (hS.at _) rfl) ?_
 refine scall Tryz.call102 (.cons rfl .nil) (c_Name hnm) ?_
 rintro _ w ⟨rfl, hE⟩; replace hS := hS.step hE; clear hE
 refine sv (yNot rfl) <| sv (yAsg rfl) <| nil <| cwQ ?_
 refine cond rfl (fun c11 => ?_) (fun c11 => ?_)
 ·
  refine seq <| region <| sv (yAsg rfl) <| nil <| cwQ ?_
  refine wp_ret (blockR (thenR ?_))
  exact retV (res1 rfl (eqI (by unfold cE; rw [if_pos c11]))) hS.ext
 ·
  refine seq <| region <| sv (fa29_5 rfl) <| sv (yLdB rfl Tryz.isAgg26 (hS.at _) rfl) <| sv (yMove rfl) <| sv (yTo rfl rfl Tryz.underlying26 Tryz.sizeOf57 (by omega)) <| sv (yFn (.cons rfl .nil)) ?_
  refine scall Tryz.call103 (.cons rfl (.cons rfl .nil)) (c_ContainsCtr (l := t.ctrs.take i) (p := fun x => decide (x.name = (ctr t.ctrs i).name)) (cl := [.pointer (some ⟨b5, 0, none⟩)]) ((hC.take (by omega)).ext RCtr.stays hS.ext) Tryz.call104 (fun x w hx e => c_centS1 (e.get (hS.at b5)))) ?_
  rintro _ w ⟨rfl, hE⟩; replace hS := hS.step hE; clear hE
  refine sv (yAsg rfl) <| nil <| cwQ ?_
  refine cond rfl (fun c16 => ?_) (fun c16 => ?_)
  ·
   refine seq <| region <| sv (yAsg rfl) <| nil <| cwQ ?_
   refine wp_ret (blockR (thenR ?_))
   exact retV (res1 rfl (eqI (by unfold cE; rw [if_neg (by rw [c11]; decide), if_pos c16]))) hS.ext
  ·
   refine seq <| region <| sv (fa57_1 rfl) <| sv (yLdB rfl Tryz.isAgg3 (hS.at _) rfl) ?_
   refine scall Tryz.call53 (.cons rfl (.cons rfl (.cons rfl .nil))) c_outS ?_
   rintro _ w ⟨rfl, hE⟩; replace hS := hS.step hE; clear hE
   refine sv (yMove rfl) ?_
   refine sg rfl rfl rfl (fun g => (fa57_2 rfl)) (fun v28 g28 => ?_)
   refine sg rfl rfl rfl (fun g => (yLdB (g28.1 g) Tryz.isAgg3 (hS.at _) rfl)) (fun v29 g29 => ?_)
   refine sgc hS rfl rfl rfl Tryz.call53 (fun g => (.cons (g29.1 g) (.cons rfl (.cons rfl .nil)))) (fun g => c_outS) ?_; clear hS; intro v30 w hS g30
   refine sv (yOr rfl rfl (fun hB => (g30.1 hB))) <| sv (yMove rfl) ?_
   refine sg rfl rfl rfl (fun g => (fa57_3 rfl)) (fun v33 g33 => ?_)
   refine sg rfl rfl rfl (fun g => (yLdB (g33.1 g) Tryz.isAgg3 (hS.at _) rfl)) (fun v34 g34 => ?_)
   refine sgc hS rfl rfl rfl Tryz.call53 (fun g => (.cons (g34.1 g) (.cons rfl (.cons rfl .nil)))) (fun g => c_outS) ?_; clear hS; intro v35 w hS g35
   refine sv (yOr rfl rfl (fun hB => (g35.1 hB))) <| sv (yAsg rfl) <| nil <| cwQ ?_
   refine cond rfl (fun c23 => ?_) (fun c23 => ?_)
   ·
    refine seq <| region <| sv (yAsg rfl) <| nil <| cwQ ?_
    refine wp_ret (blockR (thenR ?_))
    exact retV (res1 rfl (eqI (by unfold cE; rw [if_neg (by rw [c11]; decide), if_neg (by rw [c16]; decide), if_pos (show ctrB (ctr t.ctrs i) = true from c23)]))) hS.ext
   ·
    refine skip <| cwQ <| seq <| region <| sv (yAsg rfl) <| nil <| cwQ <| wp_ret ?_
    exact retV (res1 rfl (eqI (by unfold cE; rw [if_neg (by rw [c11]; decide), if_neg (by rw [c16]; decide), if_neg (by rw [show ctrB (ctr t.ctrs i) = false from c23]; decide)]))) hS.ext
theorem c_GrowI {m : Nat} {w0 : World} (hm : m ≤ 1000) : CE Tryz.prog 161 #[.slice none 0 0, .int .i64 (m : Int)] w0 (fun u w' => St w0 w' [rowI u 3 1 0 []]) := by
 refine enter Tryz.func161 rfl Tryz.ntmps161 rfl ?_
 have hS := St.start w0
 refine seq <| region <| sv (yAsg rfl) <| nil <| cwQ <| seq <| seq <| region <| sv (yMove rfl) ?_
 refine sv (yLss rfl rfl) <| nil <| cwQ ?_
 refine cond rfl (fun c6 => ?_) (fun c6 => ?_)
 ·
  simp only [BS, ne_eq] at c6
  exfalso; omega
 ·
  simp only [BS, ne_eq] at c6
  refine skip <| cwQ <| seq <| seq <| region <| sv (yMove rfl) <| sv (yMove rfl) <| sv (yCap rfl Tryz.underlying39) <| sv (yMove rfl) ?_
  refine sv (yLen rfl Tryz.underlying39) <| sv (ySub rfl rfl ⟨by omega, by omega⟩) <| sv (Y.to (ySub rfl rfl ⟨by omega, by omega⟩) (congrArg (Value.int .i64) (show (m : Int) - (((0 : Nat) : Int) - ((0 : Nat) : Int)) = (m : Int) by omega))) <| sv (yAsg rfl) <| nil <| cwQ <| seq <| region <| sv (yMove rfl) ?_
  refine sv (yGtr rfl rfl) <| nil <| cwQ ?_
  refine cond rfl (fun c16 => ?_) (fun c16 => ?_)
  ·
   simp only [BS, ne_eq] at c16
   have hm0 : 0 < m := by omega
   refine region <| sv (yMove rfl) <| sv (yMove rfl) <| sv (yCap rfl Tryz.underlying39) <| sv (yTo (i := 0) rfl rfl Tryz.underlying39 Tryz.sizeOf3 (by omega)) <| sv (yMove rfl) ?_
   refine sappZ (bytes := 8) hS rfl rfl Tryz.underlying39 Tryz.underlying3 ti3 rfl rfl rfl rfl hm0 (by omega) (by decide) ?_; clear hS; intro b22 cap22 w hcap hS
   refine sv (yMove rfl) <| sv (yLen rfl Tryz.underlying39) <| sv (yTo (i := 0) rfl rfl Tryz.underlying39 Tryz.sizeOf3 (by omega)) <| sv (yAsg rfl) <| nil <| cwQ <| seq <| region <| sv (yMove rfl) ?_
   refine sv (yAsg rfl) <| nil <| cwQ <| wp_ret <| retQ (res1 rfl rfl) ?_
   exact hS
  ·
   simp only [BS, ne_eq] at c16
   refine skip <| cwQ <| seq <| region <| sv (yMove rfl) <| sv (yAsg rfl) <| nil <| cwQ <| wp_ret ?_
   refine retQ (res1 rfl rfl) ?_
   exact hS.nilrow 3 1
set_option maxHeartbeats 1000000 in
theorem c_ConcatI {ls : List (List Int)} {v : Value} {w0 : World} (hsl : Sl w0 1 RRow v ls) (hn : ls.length ≤ 4) (hln : ∀ l ∈ ls, l.length ≤ 200) : CE Tryz.prog 109 #[v] w0 (fun u w' => St w0 w' [rowI u 3 1 ls.flatten.length (ls.flatten.flatMap Bx.encI)]) := by
 obtain ⟨a, cap, rfl, hcap, hmx, hel⟩ := id hsl
 have hfl := flat_bd hn hln
 refine enter Tryz.func109 rfl Tryz.ntmps109 rfl ?_
 have hS := St.start w0
 refine seq <| region <| sv (yAsg rfl) <| nil <| cwQ <| seq <| region <| sv (yAsg rfl) <| nil ?_
 refine cwQ <| seq <| seq <| region <| sv (yMove rfl) <| sv (yLen rfl Tryz.underlying59) <| sv (yMove rfl) <| nil <| cwQ ?_
 refine block <| loop (fun f w zz => ∃ (k : Nat), f 0 = .slice a ls.length cap ∧ f 3 = .int .i64 ((ls.take k).flatten.length : Int) ∧ f 9 = .slice a ls.length cap ∧ f 10 = .int .i64 (ls.length : Int) ∧ f 11 = .int .i64 (k : Int) ∧ StX [] w0 w [] ∧ (k ≤ ls.length) ∧ zz = ls.length - k) _ ⟨_, rfl, 0, rfl, rfl, rfl, rfl, rfl, hS, (Nat.zero_le _), rfl⟩ ?_
 clear hS
 rintro f w _ ⟨k, h0, h3, h9, h10, h11, hS, hk, rfl⟩
 refine seq <| region <| sv (yLss h11 h10) <| nil <| cwQ <| seq ?_
 refine cond rfl (fun c12 => ?_) (fun c12 => ?_)
 ·
  simp only [BS, ne_eq] at c12
  obtain ⟨x, hx, hd⟩ := drop_of (l := ls) (k := k) (by omega)
  obtain ⟨b, o, cs, ha, hlen, hcs, hR⟩ := hel k (by omega)
  obtain rfl : x = ls[k] := (List.getElem?_eq_some_iff.1 hx).2.symm
  generalize ls[k] = x at hx hd hR
  obtain ⟨v0, rfl, hxs⟩ := hR
  obtain ⟨ax, capx, rfl, hxcap, hxmx, hxel⟩ := id hxs
  have hxl := hln x (List.mem_of_getElem? hx)
  have hft := flat_take hn hln k
  refine skip <| cwQ <| seq <| block <| seq <| region <| sv (yIxa h9 ha h11 Tryz.runUnderlying59 Tryz.sizeOf39 (by omega) (by omega)) <| sv (yLd rfl Tryz.isAgg39 (hcs.ext hS.ext).one) <| sv (yAsg rfl) ?_
  refine nil <| cwQ <| seq <| region <| sv (yMove h3) <| sv (yMove rfl) <| sv (yLen rfl Tryz.underlying39) <| sv (yAdd rfl rfl ⟨by omega, by omega⟩) <| sv (yAsg rfl) ?_
  refine nil <| cwQ <| seq <| region <| sv (yMove rfl) <| sv (yLss rfl rfl) <| nil <| cwQ ?_
  refine cond rfl (fun c20 => ?_) (fun c20 => ?_)
  ·
   simp only [BS, ne_eq] at c20
   exfalso; omega
  ·
   simp only [BS, ne_eq] at c20
   refine skip <| cwQ <| region <| sv (yAdd h11 rfl ⟨by omega, by omega⟩) <| sv (yMove rfl) <| nil ?_
   exact ⟨_, _, rfl, ⟨k + 1, h0, (rfl.trans (congrArg (Value.int .i64) (by rw [take_snoc hx]; simp))), h9, h10, rfl, hS, (by omega), rfl⟩, by omega⟩
 ·
  simp only [BS, ne_eq] at c12
  obtain rfl : k = ls.length := by omega
  rw [List.take_length] at h3
  refine exit <| cwQ <| seq <| region <| sv (yMove h3) ?_
  refine scall Tryz.call161 (.cons rfl (.cons rfl .nil)) (c_GrowI (m := ls.flatten.length) (by omega)) ?_
  rintro gv w hM; replace hS := hS.call1 hM; clear hM
  refine sv (yAsg rfl) <| nil <| cwQ <| seq <| seq <| region <| sv (yMove h0) <| sv (yLen rfl Tryz.underlying59) <| sv (yMove rfl) ?_
  refine nil <| cwQ <| block <| loop (fun f w zz => ∃ (k : Nat) (cv : Value), f 6 = cv ∧ f 25 = .slice a ls.length cap ∧ f 26 = .int .i64 (ls.length : Int) ∧ f 27 = .int .i64 (k : Int) ∧ StX [] w0 w [rowI (cv) 3 1 (ls.take k).flatten.length ((ls.take k).flatten.flatMap Bx.encI)] ∧ (k ≤ ls.length) ∧ zz = ls.length - k) _ ⟨_, rfl, 0, _, rfl, rfl, rfl, rfl, hS, (Nat.zero_le _), rfl⟩ ?_
  clear hS
  rintro f w _ ⟨k, cv, h6, h25, h26, h27, hS, hk, rfl⟩
  refine seq <| region <| sv (yLss h27 h26) <| nil <| cwQ <| seq ?_
  refine cond rfl (fun c28 => ?_) (fun c28 => ?_)
  ·
   simp only [BS, ne_eq] at c28
   obtain ⟨x, hx, hd⟩ := drop_of (l := ls) (k := k) (by omega)
   obtain ⟨b, o, cs, ha, hlen, hcs, hR⟩ := hel k (by omega)
   obtain rfl : x = ls[k] := (List.getElem?_eq_some_iff.1 hx).2.symm
   generalize ls[k] = x at hx hd hR
   obtain ⟨v0, rfl, hxs⟩ := hR
   obtain ⟨ax, capx, rfl, hxcap, hxmx, hxel⟩ := id hxs
   have hxl := hln x (List.mem_of_getElem? hx)
   have hft := flat_take hn hln k
   obtain ⟨acv, ccv, rfl⟩ := row_shape (hS.row cv)
   refine skip <| cwQ <| seq <| block <| seq <| region <| sv (yIxa h25 ha h27 Tryz.runUnderlying59 Tryz.sizeOf39 (by omega) (by omega)) <| sv (yLd rfl Tryz.isAgg39 (hcs.ext hS.ext).one) <| sv (yAsg rfl) ?_
   refine nil <| cwQ <| region <| sv (yMove h6) <| sv (yMove rfl) ?_
   refine sappS (bytes := 8) (size := 1) hS rfl rfl Tryz.underlying39 ti3 rfl rfl rfl rfl (by decide) Tryz.sizeOf3 (fun hh => by obtain ⟨bd, od, e1, e2⟩ := ints_news hxs hh; exact ⟨bd, od, e1, e2.ext hS.ext⟩) (by rw [flat_len encI_len]) (ints_one x) (by omega) (by omega) ?_; clear hS; intro v33 w hS
   refine sv (yAsg rfl) <| nil <| cwQ <| region <| sv (yAdd h27 rfl ⟨by omega, by omega⟩) <| sv (yMove rfl) <| nil ?_
   exact ⟨_, _, rfl, ⟨k + 1, _, rfl, h25, h26, rfl, (by rw [take_snoc hx, List.flatten_append, List.length_append, List.flatMap_append, List.flatten_singleton]; exact hS), (by omega), rfl⟩, by omega⟩
  ·
   simp only [BS, ne_eq] at c28
   obtain rfl : k = ls.length := by omega
   rw [List.take_length] at hS
   refine exit <| cwQ <| seq <| region <| sv (yMove h6) <| sv (yAsg rfl) <| nil <| cwQ <| wp_ret ?_
   refine retQ (res1 rfl rfl) ?_
   exact hS
end Go.Proofs.YtgidbailiababaaGreatDoor

/- part Sw3 -/
namespace Go.Proofs.YtgidbailiababaaGreatDoor
open Go Bx
theorem c_foreS1 {l : List Int} {v : Value} {w0 : World} (hl : RRow w0 [v] l) : CV Tryz.prog 106 #[v] w0 (.bool (outB l.length 1 200)) := by
 obtain ⟨v, e, hl⟩ := hl
 obtain ⟨rfl⟩ := List.cons.inj e |>.1
 obtain ⟨a, cap, rfl, hcap, hmx, hel⟩ := id hl
 refine enter Tryz.func106 rfl Tryz.ntmps106 rfl ?_
 have hS := St.start w0
 refine seq <| region <| sv (yAsg rfl) <| nil <| cwQ <| seq <| region <| sv (yMove rfl) <| sv (yLen rfl Tryz.underlying39) ?_
 refine scall Tryz.call53 (.cons rfl (.cons rfl (.cons rfl .nil))) c_outS ?_
 rintro _ w ⟨rfl, hE⟩; replace hS := hS.step hE; clear hE
 refine sv (yAsg rfl) <| nil <| cwQ <| wp_ret ?_
 exact retV (res1 rfl rfl) hS.ext
theorem c_foreS2 {l : List Int} {v : Value} {f : Fct} {am : Option Addr} {cm b : Nat} {T : TypeId} {w0 : World} (hl : RRow w0 [v] l) (hM : Sl w0 1 RRow (.slice am f.members.length cm) f.members) (hm : 0 < f.members.length) (hb : w0.heap[b]? = some (.cells [.int .i64 f.centre, .int .i64 f.issued, .int .i64 f.frm, .slice am f.members.length cm].toArray T (0, 0))) : CV Tryz.prog 107 #[v, .pointer (some ⟨b, 0, none⟩)] w0 (.bool (decide ((l.length : Int) ≠ (f.members.getD 0 []).length))) := by
 obtain ⟨v, e, hl⟩ := hl
 obtain ⟨rfl⟩ := List.cons.inj e |>.1
 obtain ⟨a, cap, rfl, hcap, hmx, hel⟩ := id hl
 obtain ⟨bx, ox, cx, hax, hlx, hcx, hRx, -⟩ := sl_at hM (show f.members[0]? = some (f.members.getD 0 []) by simp [hm])
 obtain ⟨v0, rfl, hv0⟩ := hRx
 obtain ⟨a0, cap0, rfl, -⟩ := id hv0
 refine enter Tryz.func107 rfl Tryz.ntmps107 rfl ?_
 have hS := St.start w0
 refine seq <| region <| sv (yAsg rfl) <| nil <| cwQ <| seq <| region <| sv (yMove rfl) <| sv (yLen rfl Tryz.underlying39) ?_
 refine sv (fa61_3 rfl) <| sv (yLdB rfl Tryz.isAgg59 (hS.ext.get hb) rfl) <| sv (yIxa rfl hax (show _ = Value.int .i64 ((0 : Nat) : Int) from rfl) Tryz.runUnderlying59 Tryz.sizeOf39 (by omega) (by omega)) <| sv (yLd rfl Tryz.isAgg39 (hcx.ext hS.ext).one) <| sv (yLen rfl Tryz.underlying39) <| sv (yNeq rfl rfl) <| sv (yAsg rfl) <| nil <| cwQ ?_
 refine wp_ret ?_
 exact retV (res1 rfl rfl) hS.ext
theorem c_foreS3 {a : Int} {w0 : World} : CV Tryz.prog 110 #[.int .i64 a] w0 (.bool (outB a (-10000) 10000)) := by
 refine enter Tryz.func110 rfl Tryz.ntmps110 rfl ?_
 have hS := St.start w0
 refine seq <| region <| sv (yAsg rfl) <| nil <| cwQ <| seq <| region <| sv (yMove rfl) ?_
 refine scall Tryz.call53 (.cons rfl (.cons rfl (.cons rfl .nil))) c_outS ?_
 rintro _ w ⟨rfl, hE⟩; replace hS := hS.step hE; clear hE
 refine sv (yAsg rfl) <| nil <| cwQ <| wp_ret ?_
 exact retV (res1 rfl rfl) hS.ext
theorem c_foreS4 {x f : Fct} {cs : List Value} {am : Option Addr} {cm b : Nat} {T : TypeId} {w0 : World} (hx : RFct w0 cs x) (hb : w0.heap[b]? = some (.cells [.int .i64 f.centre, .int .i64 f.issued, .int .i64 f.frm, .slice am f.members.length cm].toArray T (0, 0))) : CV Tryz.prog 112 #[.agg cs.toArray, .pointer (some ⟨b, 0, none⟩)] w0 (.bool (decide (x.centre = f.centre) && decide (x.issued = f.issued))) := by
 obtain ⟨xv, rfl, -⟩ := id hx
 refine enter Tryz.func112 rfl Tryz.ntmps112 rfl ?_
 have hS := St.start w0
 refine seq <| region ?_
 refine sbox hS rfl rfl ?_; clear hS; intro b2 w hS
 refine sv (yAsg rfl) <| nil <| cwQ <| seq <| region <| sv (fa61_0 rfl) <| sv (yLdB rfl Tryz.isAgg3 (hS.at _) rfl) <| sv (fa61_0 rfl) <| sv (yLdB rfl Tryz.isAgg3 (hS.ext.get hb) rfl) ?_
 refine sv (yEql rfl rfl) <| sv (yMove rfl) ?_
 refine sg rfl rfl rfl (fun g => (fa61_1 rfl)) (fun v10 g10 => ?_)
 refine sg rfl rfl rfl (fun g => (yLdB (g10.1 g) Tryz.isAgg3 (hS.at _) rfl)) (fun v11 g11 => ?_)
 refine sg rfl rfl rfl (fun g => (fa61_1 rfl)) (fun v12 g12 => ?_)
 refine sg rfl rfl rfl (fun g => (yLdB (g12.1 g) Tryz.isAgg3 (hS.ext.get hb) rfl)) (fun v13 g13 => ?_)
 refine sg rfl rfl rfl (fun g => (yEql (g11.1 g) (g13.1 g))) (fun v14 g14 => ?_)
 refine sv (yAnd rfl (fun hB => (g14.1 hB)) rfl) <| sv (yAsg rfl) <| nil <| cwQ <| wp_ret ?_
 exact retV (res1 rfl rfl) hS.ext
set_option maxHeartbeats 2000000 in
theorem c_foreS {t : Sgt} {cs : List Value} {i : Nat} {w0 : World} (h : RSgt w0 cs t) (hi : i < t.fcs.length) : CV Tryz.prog 57 #[.agg cs.toArray, .int .i64 (i : Int)] w0 (.int .i64 (fE t.ctrs.length t.fcs i)) := by
 obtain ⟨cv, gv, tv, fv, rfl, hT, hG, hw64, hf64, hk64, hC, hF, hl64, hm64, hr64, hq64⟩ := id h
 obtain ⟨ag, cg, rfl, hgcap, hgmx, hgel⟩ := id hG
 obtain ⟨ak, ck, rfl, hkcap, hkmx, hkel⟩ := id hC
 obtain ⟨ae, ce, rfl, hecap, hemx, heel⟩ := id hF
 obtain ⟨bx, ox, cx, hax, hlx, hcx, hRx, -⟩ := sl_at hF (fct_get hi)
 obtain ⟨mv, rfl, hf1, hf2, hf3, hM⟩ := id hRx
 obtain ⟨am, cm, rfl, hmcap, hmmx, hmel⟩ := id hM
 refine enter Tryz.func57 rfl Tryz.ntmps57 rfl ?_
 have hS := St.start w0
 refine seq <| region ?_
 refine sbox hS rfl rfl ?_; clear hS; intro b2 w hS
 refine sv (yAsg rfl) <| nil <| cwQ <| seq <| region <| sv (fa29_6 rfl) <| sv (yLdB rfl Tryz.isAgg27 (hS.at _) rfl) <| sv (yMove rfl) <| sv (yIxa rfl hax rfl Tryz.runUnderlying27 Tryz.sizeOf61 (by omega) (by omega)) ?_
 refine sv (yLdA rfl Tryz.isAgg61 Tryz.sizeOf61 (hcx.ext hS.ext) rfl) ?_
 refine salloc hS Tryz.zeroValue61 rfl ?_; clear hS; intro b5 w hS
 refine sst hS rfl rfl Tryz.sizeOf61 rfl rfl rfl rfl ?_; clear hS; intro w hS
 refine nil <| cwQ <| seq <| block <| seq <| region <| sv (fa61_0 rfl) <| sv (yLdB rfl Tryz.isAgg3 (hS.at _) rfl) <| sv (fa29_5 rfl) ?_
 refine sv (yLdB rfl Tryz.isAgg26 (hS.at _) rfl) <| sv (yLen rfl Tryz.underlying26) <| sv (ySub rfl rfl ⟨by omega, by omega⟩) ?_
 refine scall Tryz.call53 (.cons rfl (.cons rfl (.cons rfl .nil))) c_outS ?_
 rintro _ w ⟨rfl, hE⟩; replace hS := hS.step hE; clear hE
 refine sv (yAsg rfl) <| nil <| cwQ ?_
 refine cond rfl (fun c11 => ?_) (fun c11 => ?_)
 ·
  refine seq <| region <| sv (yAsg rfl) <| nil <| cwQ ?_
  refine wp_ret (blockR (thenR ?_))
  exact retV (res1 rfl (eqI (by unfold fE; rw [if_pos c11]))) hS.ext
 ·
  refine seq <| region <| sv (fa61_1 rfl) <| sv (yLdB rfl Tryz.isAgg3 (hS.at _) rfl) ?_
  refine scall Tryz.call53 (.cons rfl (.cons rfl (.cons rfl .nil))) c_outS ?_
  rintro _ w ⟨rfl, hE⟩; replace hS := hS.step hE; clear hE
  refine sv (yMove rfl) ?_
  refine sg rfl rfl rfl (fun g => (fa61_2 rfl)) (fun v24 g24 => ?_)
  refine sg rfl rfl rfl (fun g => (yLdB (g24.1 g) Tryz.isAgg3 (hS.at _) rfl)) (fun v25 g25 => ?_)
  refine sgc hS rfl rfl rfl Tryz.call53 (fun g => (.cons (g25.1 g) (.cons rfl (.cons rfl .nil)))) (fun g => c_outS) ?_; clear hS; intro v26 w hS g26
  refine sv (yOr rfl rfl (fun hB => (g26.1 hB))) <| sv (yAsg rfl) <| nil <| cwQ ?_
  refine cond rfl (fun c19 => ?_) (fun c19 => ?_)
  ·
   refine seq <| region <| sv (yAsg rfl) <| nil <| cwQ ?_
   refine wp_ret (blockR (thenR ?_))
   exact retV (res1 rfl (eqI (by unfold fE; rw [if_neg (by rw [c11]; decide), if_pos c19]))) hS.ext
  ·
   refine seq <| region <| sv (fa61_3 rfl) <| sv (yLdB rfl Tryz.isAgg59 (hS.at _) rfl) <| sv (yLen rfl Tryz.underlying59) ?_
   refine scall Tryz.call53 (.cons rfl (.cons rfl (.cons rfl .nil))) c_outS ?_
   rintro _ w ⟨rfl, hE⟩; replace hS := hS.step hE; clear hE
   refine sv (yMove rfl) ?_
   refine sg rfl rfl rfl (fun g => (fa61_3 rfl)) (fun v34 g34 => ?_)
   refine sg rfl rfl rfl (fun g => (yLdB (g34.1 g) Tryz.isAgg59 (hS.at _) rfl)) (fun v35 g35 => ?_)
   refine sgc hS rfl rfl rfl Tryz.call105 (fun g => (.cons (g35.1 g) (.cons rfl .nil))) (fun g => (c_ContainsRow (p := fun l => outB l.length 1 200) (cl := []) (hM.ext RRow.stays hS.ext) Tryz.call106 (fun x x0 w hx e hR => c_foreS1 hR))) ?_; clear hS; intro v36 w hS g36
   refine sv (yOr rfl rfl (fun hB => (g36.1 hB))) <| sv (yAsg rfl) <| nil <| cwQ ?_
   refine cond rfl (fun c28 => ?_) (fun c28 => ?_)
   ·
    refine seq <| region <| sv (yAsg rfl) <| nil <| cwQ ?_
    refine wp_ret (blockR (thenR ?_))
    exact retV (res1 rfl (eqI (by unfold fE; rw [if_neg (by rw [c11]; decide), if_neg (by rw [c19]; decide), if_pos (show longM (fct t.fcs i) = true from c28)]))) hS.ext
   ·
    have hlm : longM (fct t.fcs i) = false := c28
    obtain ⟨hm1, hm2⟩ := longM_ok hlm
    refine seq <| region <| sv (fa61_3 rfl) <| sv (yLdB rfl Tryz.isAgg59 (hS.at _) rfl) <| sv (yFn (.cons rfl .nil)) ?_
    refine scall Tryz.call105 (.cons rfl (.cons rfl .nil)) (c_ContainsRow (p := fun l => decide ((l.length : Int) ≠ ((fct t.fcs i).members.getD 0 []).length)) (cl := [.pointer (some ⟨b5, 0, none⟩)]) (hM.ext RRow.stays hS.ext) Tryz.call107 (fun x x0 w hx e hR => c_foreS2 hR (hM.ext RRow.stays (hS.ext.trans e)) (by omega) (e.get (hS.at b5)))) ?_
    rintro _ w ⟨rfl, hE⟩; replace hS := hS.step hE; clear hE
    refine sv (yAsg rfl) <| nil <| cwQ ?_
    refine cond rfl (fun c38 => ?_) (fun c38 => ?_)
    ·
     refine seq <| region <| sv (yAsg rfl) <| nil <| cwQ ?_
     refine wp_ret (blockR (thenR ?_))
     exact retV (res1 rfl (eqI (by unfold fE; rw [if_neg (by rw [c11]; decide), if_neg (by rw [c19]; decide), if_neg (by rw [show longM (fct t.fcs i) = false from c28]; decide), if_pos (show sameM (fct t.fcs i) = true from c38)]))) hS.ext
    ·
     refine seq <| region <| sv (fa61_3 rfl) <| sv (yLdB rfl Tryz.isAgg59 (hS.at _) rfl) ?_
     refine scall Tryz.call109 (.cons rfl .nil) (c_ConcatI (hM.ext RRow.stays hS.ext) hm1.2 (fun l hl => (hm2 l hl).2)) ?_
     rintro fv w hM2; replace hS := hS.call1 hM2; clear hM2
     refine scall Tryz.call108 (.cons rfl (.cons rfl .nil)) (c_ContainsFuncInt (l := (fct t.fcs i).members.flatten) (p := fun v => outB v (-10000) 10000) (cl := []) (sl_ints (hS.row fv) rfl (flat_I64 (hM.ext RRow.stays hS.ext))) Tryz.call110 (fun x cs w _ _ _ => c_foreS3)) ?_
     rintro _ w ⟨rfl, hE⟩; replace hS := hS.step hE; clear hE
     refine sv (yAsg rfl) <| nil <| cwQ ?_
     refine cond rfl (fun c43 => ?_) (fun c43 => ?_)
     ·
      refine seq <| region <| sv (yAsg rfl) <| nil <| cwQ ?_
      refine wp_ret (blockR (thenR ?_))
      exact retV (res1 rfl (eqI (by unfold fE; rw [if_neg (by rw [c11]; decide), if_neg (by rw [c19]; decide), if_neg (by rw [show longM (fct t.fcs i) = false from c28]; decide), if_neg (by rw [show sameM (fct t.fcs i) = false from c38]; decide), if_pos (show farM (fct t.fcs i) = true from c43)]))) hS.ext
     ·
      refine seq <| region <| sv (fa29_6 rfl) <| sv (yLdB rfl Tryz.isAgg27 (hS.at _) rfl) <| sv (yMove rfl) <| sv (yTo rfl rfl Tryz.underlying27 Tryz.sizeOf61 (by omega)) <| sv (yFn (.cons rfl .nil)) ?_
      refine scall Tryz.call111 (.cons rfl (.cons rfl .nil)) (c_ContainsFct (l := t.fcs.take i) (p := fun x => decide (x.centre = (fct t.fcs i).centre) && decide (x.issued = (fct t.fcs i).issued)) (cl := [.pointer (some ⟨b5, 0, none⟩)]) ((hF.take (by omega)).ext RFct.stays hS.ext) Tryz.call112 (fun x cs w hx e hR => c_foreS4 hR (e.get (hS.at b5)))) ?_
      rintro _ w ⟨rfl, hE⟩; replace hS := hS.step hE; clear hE
      refine sv (yAsg rfl) <| nil <| cwQ ?_
      refine cond rfl (fun c48 => ?_) (fun c48 => ?_)
      ·
       refine seq <| region <| sv (yAsg rfl) <| nil <| cwQ ?_
       refine wp_ret (blockR (thenR ?_))
       exact retV (res1 rfl (eqI (by unfold fE; rw [if_neg (by rw [c11]; decide), if_neg (by rw [c19]; decide), if_neg (by rw [show longM (fct t.fcs i) = false from c28]; decide), if_neg (by rw [show sameM (fct t.fcs i) = false from c38]; decide), if_neg (by rw [show farM (fct t.fcs i) = false from c43]; decide), if_pos (show twiceF t.fcs i = true from c48)]))) hS.ext
      ·
       refine skip <| cwQ <| seq <| region <| sv (yAsg rfl) <| nil <| cwQ <| wp_ret ?_
       exact retV (res1 rfl (eqI (by unfold fE; rw [if_neg (by rw [c11]; decide), if_neg (by rw [c19]; decide), if_neg (by rw [show longM (fct t.fcs i) = false from c28]; decide), if_neg (by rw [show sameM (fct t.fcs i) = false from c38]; decide), if_neg (by rw [show farM (fct t.fcs i) = false from c43]; decide), if_neg (by rw [show twiceF t.fcs i = false from c48]; decide)]))) hS.ext
set_option maxHeartbeats 2000000 in
theorem c_CheckS {t : Sgt} {cs : List Value} {w0 : World} (h : RSgt w0 cs t) : CV Tryz.prog 17 #[.agg cs.toArray] w0 (.tuple #[.int .i64 (checkS t).1, .int .i64 (checkS t).2.1, .int .i64 (checkS t).2.2]) := by
 obtain ⟨cv, gv, tv, fv, rfl, hT, hG, hw64, hf64, hk64, hC, hF, hl64, hm64, hr64, hq64⟩ := id h
 obtain ⟨ag, cg, rfl, hgcap, hgmx, hgel⟩ := id hG
 obtain ⟨ak, ck, rfl, hkcap, hkmx, hkel⟩ := id hC
 obtain ⟨ae, ce, rfl, hecap, hemx, heel⟩ := id hF
 refine enter Tryz.func17 rfl Tryz.ntmps17 rfl ?_
 have hS := St.start w0
 refine seq <| region ?_
 refine sbox hS rfl rfl ?_; clear hS; intro b1 w hS
 refine sv (yAsg rfl) <| sv (yAsg rfl) <| sv (yAsg rfl) <| nil <| cwQ <| seq <| seq <| region <| sv (fa29_4 rfl) ?_
 refine sv (yLdB rfl Tryz.isAgg3 (hS.at _) rfl) ?_
 refine scall Tryz.call53 (.cons rfl (.cons rfl (.cons rfl .nil))) c_outS ?_
 rintro _ w ⟨rfl, hE⟩; replace hS := hS.step hE; clear hE
 refine nil <| cwQ ?_
 refine cond rfl (fun c9 => ?_) (fun c9 => ?_)
 ·
  refine seq <| region <| sv (yAsg rfl) <| sv (yAsg rfl) <| sv (yAsg rfl) <| nil <| cwQ ?_
  have hfin : checkS t = (1, 0, 7) := by unfold checkS; rw [if_pos c9]
  refine wp_ret (thenR ?_)
  exact retV (res3 rfl (fstI hfin) (thd1I hfin) (thd2I hfin)) hS.ext
 ·
  refine skip <| cwQ <| seq <| seq <| region <| sv (fa29_0 rfl) <| sv (yLdBA rfl Tryz.isAgg24 Tryz.sizeOf24 (hS.at _) rfl rfl) <| sv (fa29_3 rfl) <| sv (yLdB rfl Tryz.isAgg3 (hS.at _) rfl) ?_
  refine sv (fa29_4 rfl) <| sv (yLdB rfl Tryz.isAgg3 (hS.at _) rfl) ?_
  refine scall Tryz.call54 (.cons rfl (.cons rfl (.cons rfl .nil))) (c_Levels (hT.ext hS.ext)) ?_
  rintro _ w ⟨lvv, rfl, hM⟩; replace hS := (hS.call1 hM).sub (.cons _ lrQ); clear hM
  refine sv (yMove rfl) <| sv (yExt rfl rfl) <| sv (yExt rfl rfl) <| sv (yAsg rfl) <| nil <| cwQ <| seq <| region <| sv (yMove rfl) ?_
  refine sv (yNeq rfl rfl) <| nil <| cwQ ?_
  refine cond rfl (fun c21 => ?_) (fun c21 => ?_)
  ·
   simp only [BS, ne_eq] at c21
   refine seq <| region <| sv (yMove rfl) <| sv (yAsg rfl) <| sv (yAsg rfl) <| sv (yAsg rfl) <| nil <| cwQ ?_
   have hfin : checkS t = (1, 0, levelsE t.table t.frm t.ticks) := by unfold checkS; rw [if_neg (by rw [c9]; decide), if_pos c21]
   refine wp_ret (thenR ?_)
   exact retV (res3 rfl (fstI hfin) (thd1I hfin) (thd2I hfin)) hS.ext
  ·
   simp only [BS, ne_eq] at c21
   refine skip <| cwQ <| seq <| seq <| region <| sv (yLdBA rfl Tryz.isAgg29 Tryz.sizeOf29 (hS.at _) rfl rfl) ?_
   refine scall Tryz.call55 (.cons rfl .nil) (c_gausS (h.ext hS.ext)) ?_
   rintro _ w ⟨rfl, hE⟩; replace hS := hS.step hE; clear hE
   refine sv (yMove rfl) <| sv (yExt rfl rfl) <| sv (yExt rfl rfl) <| sv (yAsg rfl) <| sv (yAsg rfl) <| nil <| cwQ <| seq <| region ?_
   refine sv (yMove rfl) <| sv (yNeq rfl rfl) <| nil <| cwQ ?_
   refine cond rfl (fun c29 => ?_) (fun c29 => ?_)
   ·
    simp only [BS, ne_eq] at c29
    refine seq <| region <| sv (yMove rfl) <| sv (yMove rfl) <| sv (yAsg rfl) <| sv (yAsg rfl) <| sv (yAsg rfl) <| nil <| cwQ ?_
    have hfin : checkS t = (2, gausE t) := by unfold checkS; rw [if_neg (by rw [c9]; decide), if_neg (fun k => k c21), if_pos c29]
    refine wp_ret (thenR ?_)
    exact retV (res3 rfl (fstI hfin) (thd1I hfin) (thd2I hfin)) hS.ext
   ·
    simp only [BS, ne_eq] at c29
    refine skip <| cwQ <| seq <| block <| seq <| region <| sv (fa29_5 rfl) <| sv (yLdB rfl Tryz.isAgg26 (hS.at _) rfl) <| sv (yLen rfl Tryz.underlying26) ?_
    refine sv (yGtr rfl rfl) <| sv (yMove rfl) ?_
    refine sg rfl rfl rfl (fun g => (fa29_6 rfl)) (fun v38 g38 => ?_)
    refine sg rfl rfl rfl (fun g => (yLdB (g38.1 g) Tryz.isAgg27 (hS.at _) rfl)) (fun v39 g39 => ?_)
    refine sg rfl rfl rfl (fun g => (yLen (g39.1 g) Tryz.underlying27)) (fun v40 g40 => ?_)
    refine sg rfl rfl rfl (fun g => (yGtr (g40.1 g) rfl)) (fun v41 g41 => ?_)
    refine sv (yOr rfl rfl (fun hB => (g41.1 hB))) <| sv (yAsg rfl) <| nil <| cwQ ?_
    refine cond rfl (fun c32 => ?_) (fun c32 => ?_)
    ·
     simp only [BS, ne_eq] at c32
     refine seq <| region <| sv (yAsg rfl) <| sv (yAsg rfl) <| sv (yAsg rfl) <| nil <| cwQ ?_
     have hfin : checkS t = (3, 0, 3) := by unfold checkS; rw [if_neg (by rw [c9]; decide), if_neg (fun k => k c21), if_neg (fun k => k c29), if_pos c32]
     refine wp_ret (blockR (thenR ?_))
     exact retV (res3 rfl (fstI hfin) (thd1I hfin) (thd2I hfin)) hS.ext
    ·
     simp only [BS, ne_eq] at c32
     refine seq <| region <| sv (fa29_7 rfl) <| sv (yLdB rfl Tryz.isAgg3 (hS.at _) rfl) ?_
     refine scall Tryz.call53 (.cons rfl (.cons rfl (.cons rfl .nil))) c_outS ?_
     rintro _ w ⟨rfl, hE⟩; replace hS := hS.step hE; clear hE
     refine sv (yMove rfl) ?_
     refine sg rfl rfl rfl (fun g => (fa29_8 rfl)) (fun v48 g48 => ?_)
     refine sg rfl rfl rfl (fun g => (yLdB (g48.1 g) Tryz.isAgg3 (hS.at _) rfl)) (fun v49 g49 => ?_)
     refine sgc hS rfl rfl rfl Tryz.call53 (fun g => (.cons (g49.1 g) (.cons rfl (.cons rfl .nil)))) (fun g => c_outS) ?_; clear hS; intro v50 w hS g50
     refine sv (yOr rfl rfl (fun hB => (g50.1 hB))) <| sv (yMove rfl) ?_
     refine sg rfl rfl rfl (fun g => (fa29_9 rfl)) (fun v53 g53 => ?_)
     refine sg rfl rfl rfl (fun g => (yLdB (g53.1 g) Tryz.isAgg3 (hS.at _) rfl)) (fun v54 g54 => ?_)
     refine sgc hS rfl rfl rfl Tryz.call53 (fun g => (.cons (g54.1 g) (.cons rfl (.cons rfl .nil)))) (fun g => c_outS) ?_; clear hS; intro v55 w hS g55
     refine sv (yOr rfl rfl (fun hB => (g55.1 hB))) <| sv (yMove rfl) ?_
     refine sg rfl rfl rfl (fun g => (fa29_10 rfl)) (fun v58 g58 => ?_)
     refine sg rfl rfl rfl (fun g => (yLdB (g58.1 g) Tryz.isAgg3 (hS.at _) rfl)) (fun v59 g59 => ?_)
     refine sg rfl rfl rfl (fun g => (fa29_5 rfl)) (fun v60 g60 => ?_)
     refine sg rfl rfl rfl (fun g => (yLdB (g60.1 g) Tryz.isAgg26 (hS.at _) rfl)) (fun v61 g61 => ?_)
     refine sg rfl rfl rfl (fun g => (yLen (g61.1 g) Tryz.underlying26)) (fun v62 g62 => ?_)
     refine sgc hS rfl rfl rfl Tryz.call53 (fun g => (.cons (g59.1 g) (.cons rfl (.cons (g62.1 g) .nil)))) (fun g => c_outS) ?_; clear hS; intro v63 w hS g63
     refine sv (yOr rfl rfl (fun hB => (g63.1 hB))) <| sv (yAsg rfl) <| nil <| cwQ ?_
     refine cond rfl (fun c43 => ?_) (fun c43 => ?_)
     ·
      refine seq <| region <| sv (yAsg rfl) <| sv (yAsg rfl) <| sv (yAsg rfl) <| nil <| cwQ ?_
      have hfin : checkS t = (3, 0, 7) := by unfold checkS; rw [if_neg (by rw [c9]; decide), if_neg (fun k => k c21), if_neg (fun k => k c29), if_neg (fun k => k.elim c32.1 c32.2), if_pos (show numsS t = true from c43)]
      refine wp_ret (blockR (thenR ?_))
      exact retV (res3 rfl (fstI hfin) (thd1I hfin) (thd2I hfin)) hS.ext
     ·
      refine skip <| cwQ <| seq <| seq <| region <| sv (fa29_5 rfl) <| sv (yLdB rfl Tryz.isAgg26 (hS.at _) rfl) <| sv (yLen rfl Tryz.underlying26) <| sv (yMove rfl) ?_
      refine nil <| cwQ <| block <| loop (fun f w zz => ∃ (k : Nat), f 1 = .pointer (some ⟨b1, 0, none⟩) ∧ f 66 = .slice ak t.ctrs.length ck ∧ f 67 = .int .i64 (t.ctrs.length : Int) ∧ f 68 = .int .i64 (k : Int) ∧ StX [] w0 w [blk b1 [.int .i64 t.table.mean, cv, .slice ag t.gauges.length cg, .int .i64 t.wrong, .int .i64 t.frm, .int .i64 t.ticks, .slice ak t.ctrs.length ck, .slice ae t.fcs.length ce, .int .i64 t.least, .int .i64 t.most, .int .i64 t.rate, .int .i64 t.quorum] 29] ∧ (k ≤ t.ctrs.length) ∧ (firstN (cE t.ctrs) t.ctrs.length 0 = firstN (cE t.ctrs) (t.ctrs.length - k) k) ∧ zz = t.ctrs.length - k) _ ⟨_, rfl, 0, rfl, rfl, rfl, rfl, hS, (Nat.zero_le _), (rfl), rfl⟩ ?_
      clear hS
      rintro f w _ ⟨k, h1, h66, h67, h68, hS, hk, hI, rfl⟩
      refine seq <| region <| sv (yLss h68 h67) <| nil <| cwQ <| seq ?_
      refine cond rfl (fun c69 => ?_) (fun c69 => ?_)
      ·
       simp only [BS, ne_eq] at c69
       refine skip <| cwQ <| seq <| block <| seq <| region <| sv (yMove h68) <| sv (yAsg rfl) <| nil ?_
       refine cwQ <| seq <| region <| sv (yLdBA h1 Tryz.isAgg29 Tryz.sizeOf29 (hS.at _) rfl rfl) <| sv (yMove rfl) ?_
       refine scall Tryz.call56 (.cons rfl (.cons rfl .nil)) (c_centS (h.ext hS.ext) (by omega)) ?_
       rintro _ w ⟨rfl, hE⟩; replace hS := hS.step hE; clear hE
       refine sv (yAsg rfl) <| nil <| cwQ <| seq <| region <| sv (yMove rfl) <| sv (yNeq rfl rfl) <| nil <| cwQ ?_
       refine cond rfl (fun c75 => ?_) (fun c75 => ?_)
       ·
        simp only [BS, ne_eq] at c75
        refine seq <| region <| sv (yMove rfl) <| sv (yMove rfl) <| sv (yAsg rfl) <| sv (yAsg rfl) <| sv (yAsg rfl) <| nil <| cwQ ?_
        have hN : firstN (cE t.ctrs) t.ctrs.length 0 = ((k : Int), cE t.ctrs k) := by rw [hI, firstN_at (by omega) c75]
        have hfin : checkS t = (4, (k : Int), cE t.ctrs k) := by unfold checkS; rw [if_neg (by rw [c9]; decide), if_neg (fun k => k c21), if_neg (fun k => k c29), if_neg (fun k => k.elim c32.1 c32.2), if_neg (by rw [show numsS t = false from c43]; decide), if_pos (by rw [hN]; exact c75), hN]
        refine wp_ret (blockR (thenR (thenR (blockR (thenR ?_)))))
        exact retV (res3 rfl (fstI hfin) (thd1I hfin) (thd2I hfin)) hS.ext
       ·
        simp only [BS, ne_eq] at c75
        refine skip <| cwQ <| region <| sv (yAdd h68 rfl ⟨by omega, by omega⟩) <| sv (yMove rfl) <| nil ?_
        exact ⟨_, _, rfl, ⟨k + 1, h1, h66, h67, rfl, hS, (by omega), (by rw [hI]; exact firstN_go (by omega) c75), rfl⟩, by omega⟩
      ·
       simp only [BS, ne_eq] at c69
       obtain rfl : k = t.ctrs.length := by omega
       have hec : (firstN (cE t.ctrs) t.ctrs.length 0).2 = 0 := by rw [hI, Nat.sub_self]; rfl
       clear hI
       refine exit <| cwQ <| seq <| seq <| region <| sv (fa29_6 h1) <| sv (yLdB rfl Tryz.isAgg27 (hS.at _) rfl) <| sv (yLen rfl Tryz.underlying27) <| sv (yMove rfl) ?_
       refine nil <| cwQ <| block <| loop (fun f w zz => ∃ (k : Nat), f 1 = .pointer (some ⟨b1, 0, none⟩) ∧ f 80 = .slice ae t.fcs.length ce ∧ f 81 = .int .i64 (t.fcs.length : Int) ∧ f 82 = .int .i64 (k : Int) ∧ StX [] w0 w [blk b1 [.int .i64 t.table.mean, cv, .slice ag t.gauges.length cg, .int .i64 t.wrong, .int .i64 t.frm, .int .i64 t.ticks, .slice ak t.ctrs.length ck, .slice ae t.fcs.length ce, .int .i64 t.least, .int .i64 t.most, .int .i64 t.rate, .int .i64 t.quorum] 29] ∧ (k ≤ t.fcs.length) ∧ (firstN (fE t.ctrs.length t.fcs) t.fcs.length 0 = firstN (fE t.ctrs.length t.fcs) (t.fcs.length - k) k) ∧ zz = t.fcs.length - k) _ ⟨_, rfl, 0, h1, rfl, rfl, rfl, hS, (Nat.zero_le _), (rfl), rfl⟩ ?_
       clear hS
       rintro f w _ ⟨k, h1, h80, h81, h82, hS, hk, hI, rfl⟩
       refine seq <| region <| sv (yLss h82 h81) <| nil <| cwQ <| seq ?_
       refine cond rfl (fun c83 => ?_) (fun c83 => ?_)
       ·
        simp only [BS, ne_eq] at c83
        refine skip <| cwQ <| seq <| block <| seq <| region <| sv (yMove h82) <| sv (yAsg rfl) <| nil ?_
        refine cwQ <| seq <| region <| sv (yLdBA h1 Tryz.isAgg29 Tryz.sizeOf29 (hS.at _) rfl rfl) <| sv (yMove rfl) ?_
        refine scall Tryz.call57 (.cons rfl (.cons rfl .nil)) (c_foreS (h.ext hS.ext) (by omega)) ?_
        rintro _ w ⟨rfl, hE⟩; replace hS := hS.step hE; clear hE
        refine sv (yAsg rfl) <| nil <| cwQ <| seq <| region <| sv (yMove rfl) <| sv (yNeq rfl rfl) <| nil <| cwQ ?_
        refine cond rfl (fun c89 => ?_) (fun c89 => ?_)
        ·
         simp only [BS, ne_eq] at c89
         refine seq <| region <| sv (yMove rfl) <| sv (yMove rfl) <| sv (yAsg rfl) <| sv (yAsg rfl) <| sv (yAsg rfl) <| nil <| cwQ ?_
         have hN : firstN (fE t.ctrs.length t.fcs) t.fcs.length 0 = ((k : Int), fE t.ctrs.length t.fcs k) := by rw [hI, firstN_at (by omega) c89]
         have hfin : checkS t = (5, (k : Int), fE t.ctrs.length t.fcs k) := by unfold checkS; rw [if_neg (by rw [c9]; decide), if_neg (fun k => k c21), if_neg (fun k => k c29), if_neg (fun k => k.elim c32.1 c32.2), if_neg (by rw [show numsS t = false from c43]; decide), if_neg (fun k => k hec), if_pos (by rw [hN]; exact c89), hN]
         refine wp_ret (blockR (thenR (thenR (blockR (thenR ?_)))))
         exact retV (res3 rfl (fstI hfin) (thd1I hfin) (thd2I hfin)) hS.ext
        ·
         simp only [BS, ne_eq] at c89
         refine skip <| cwQ <| region <| sv (yAdd h82 rfl ⟨by omega, by omega⟩) <| sv (yMove rfl) <| nil ?_
         exact ⟨_, _, rfl, ⟨k + 1, h1, h80, h81, rfl, hS, (by omega), (by rw [hI]; exact firstN_go (by omega) c89), rfl⟩, by omega⟩
       ·
        simp only [BS, ne_eq] at c83
        obtain rfl : k = t.fcs.length := by omega
        have hef : (firstN (fE t.ctrs.length t.fcs) t.fcs.length 0).2 = 0 := by rw [hI, Nat.sub_self]; rfl
        refine exit <| cwQ <| seq <| region <| sv (yAsg rfl) <| sv (yAsg rfl) <| sv (yAsg rfl) <| nil <| cwQ ?_
        have hfin : checkS t = (0, 0, 0) := by unfold checkS; rw [if_neg (by rw [c9]; decide), if_neg (fun k => k c21), if_neg (fun k => k c29), if_neg (fun k => k.elim c32.1 c32.2), if_neg (by rw [show numsS t = false from c43]; decide), if_neg (fun k => k hec), if_neg (fun k => k hef)]
        refine wp_ret ?_
        exact retV (res3 rfl (fstI hfin) (thd1I hfin) (thd2I hfin)) hS.ext
end Go.Proofs.YtgidbailiababaaGreatDoor

/- part Sw4 -/
namespace Go.Proofs.YtgidbailiababaaGreatDoor
open Go Bx
theorem c_Mul64 {k : Nat} {w0 : World} (hk : k ≤ 200) : CV Tryz.prog 199 #[.int .u64 1, .int .u64 (k : Int)] w0 (.tuple #[.int .u64 0, .int .u64 (k : Int)]) := by
 refine enter Tryz.func199 rfl Tryz.ntmps199 rfl ?_
 have hS := St.start w0
 refine seq <| region <| sv (yAsg rfl) <| sv (yAsg rfl) <| nil <| cwQ <| seq <| region <| sv (yMove rfl) ?_
 refine sv (yBin rfl rfl rfl and_1) <| sv (yAsg rfl) <| nil <| cwQ <| seq <| region <| sv (yMove rfl) <| sv (yShr32 rfl rfl (by decide)) <| sv (yAsg rfl) ?_
 refine nil <| cwQ <| seq <| region <| sv (yMove rfl) <| sv (yBin rfl rfl rfl (and_k hk)) <| sv (yAsg rfl) <| nil <| cwQ ?_
 refine seq <| region <| sv (yMove rfl) <| sv (yShr32 rfl rfl ⟨by omega, by omega⟩) <| sv (yAsg rfl) <| nil <| cwQ <| seq <| region ?_
 refine sv (yMove rfl) <| sv (yMove rfl) <| sv (yU (r := (k : Int)) rfl rfl (.inr ⟨rfl, by omega⟩) ⟨by omega, by omega⟩) <| sv (yAsg rfl) <| nil <| cwQ <| seq <| region <| sv (yMove rfl) ?_
 refine sv (yMove rfl) <| sv (yU (r := 0) rfl rfl (by first | (exact .inl ⟨rfl, by omega⟩) | (exact .inr ⟨rfl, by simp⟩)) ⟨by omega, by omega⟩) <| sv (yMove rfl) <| sv (yShr32 rfl rfl ⟨by omega, by omega⟩) <| sv (yU (r := 0) rfl rfl (by first | (exact .inl ⟨rfl, by omega⟩) | (exact .inr ⟨rfl, by simp⟩)) ⟨by omega, by omega⟩) <| sv (yAsg rfl) <| nil <| cwQ <| seq ?_
 refine region <| sv (yMove rfl) <| sv (yBin rfl rfl rfl and_0) <| sv (yAsg rfl) <| nil <| cwQ <| seq <| region <| sv (yMove rfl) ?_
 refine sv (yShr32 rfl rfl (by decide)) <| sv (yAsg rfl) <| nil <| cwQ <| seq <| region <| sv (yMove rfl) <| sv (yMove rfl) <| sv (yMove rfl) ?_
 refine sv (yU (r := 0) rfl rfl (by first | (exact .inl ⟨rfl, by omega⟩) | (exact .inr ⟨rfl, by simp⟩)) ⟨by omega, by omega⟩) <| sv (yU (r := 0) rfl rfl (by first | (exact .inl ⟨rfl, by omega⟩) | (exact .inr ⟨rfl, by simp⟩)) ⟨by omega, by omega⟩) <| sv (yAsg rfl) <| nil <| cwQ <| seq <| region <| sv (yMove rfl) <| sv (yMove rfl) ?_
 refine sv (yU (r := 0) rfl rfl (by first | (exact .inl ⟨rfl, by omega⟩) | (exact .inr ⟨rfl, by simp⟩)) ⟨by omega, by omega⟩) <| sv (yMove rfl) <| sv (yU (r := 0) rfl rfl (by first | (exact .inl ⟨rfl, by omega⟩) | (exact .inr ⟨rfl, by simp⟩)) ⟨by omega, by omega⟩) <| sv (yMove rfl) <| sv (yShr32 rfl rfl (by decide)) <| sv (yU (r := 0) rfl rfl (by first | (exact .inl ⟨rfl, by omega⟩) | (exact .inr ⟨rfl, by simp⟩)) ⟨by omega, by omega⟩) <| sv (yAsg rfl) <| nil <| cwQ ?_
 refine seq <| region <| sv (yMove rfl) <| sv (yMove rfl) <| sv (yU (r := (k : Int)) rfl rfl (.inr ⟨rfl, by omega⟩) ⟨by omega, by omega⟩) <| sv (yAsg rfl) <| nil <| cwQ <| wp_ret ?_
 exact retV (res2 rfl rfl rfl) hS.ext
theorem c_Mul {k : Nat} {w0 : World} (hk : k ≤ 200) : CV Tryz.prog 176 #[.int .u64 1, .int .u64 (k : Int)] w0 (.tuple #[.int .u64 0, .int .u64 (k : Int)]) := by
 refine enter Tryz.func176 rfl Tryz.ntmps176 rfl ?_
 have hS := St.start w0
 refine seq <| region <| sv (yAsg rfl) <| sv (yAsg rfl) <| nil <| cwQ <| seq ?_
 refine cond rfl (fun cK => ?_) (fun cK => ?_)
 ·
  cases cK
 ·
  refine skip <| cwQ <| seq <| region <| sv (yMove rfl) <| sv (yMove rfl) ?_
  refine scall Tryz.call199 (.cons rfl (.cons rfl .nil)) (c_Mul64 hk) ?_
  rintro _ w ⟨rfl, hE⟩; replace hS := hS.step hE; clear hE
  refine sv (yMove rfl) <| sv (yExt rfl rfl) <| sv (yExt rfl rfl) <| sv (yAsg rfl) <| sv (yAsg rfl) <| nil <| cwQ <| seq <| region ?_
  refine sv (yMove rfl) <| sv (yMove rfl) <| sv (yAsg rfl) <| sv (yAsg rfl) <| nil <| cwQ <| wp_ret ?_
  exact retV (res2 rfl rfl rfl) hS.ext
set_option maxHeartbeats 1000000 in
theorem c_RepeatS {k b : Nat} {s : Span} {w0 : World} (hk : k ≤ 200) (hb : w0.heap[b]? = some (.cells (spanC s).toArray 74 (0, 0))) : CE Tryz.prog 140 #[.slice (some ⟨b, 0, none⟩) 1 1, .int .i64 (k : Int)] w0 (fun u w' => St w0 w' [rowI u 74 2 k ((List.replicate k s).flatMap spanC)]) := by
 refine enter Tryz.func140 rfl Tryz.ntmps140 rfl ?_
 have hS := St.start w0
 refine seq <| region <| sv (yAsg rfl) <| nil <| cwQ <| seq <| seq <| region <| sv (yMove rfl) ?_
 refine sv (yLss rfl rfl) <| nil <| cwQ ?_
 refine cond rfl (fun c10 => ?_) (fun c10 => ?_)
 ·
  simp only [BS, ne_eq] at c10
  exfalso; omega
 ·
  simp only [BS, ne_eq] at c10
  refine skip <| cwQ <| seq <| region <| sv (yMove rfl) <| sv (yLen rfl Tryz.underlying121) <| sv (yToU rfl Tryz.underlying3 Tryz.underlying218 ⟨by omega, by omega⟩) <| sv (yMove rfl) <| sv (yToU rfl Tryz.underlying3 Tryz.underlying218 ⟨by omega, by omega⟩) ?_
  refine scall Tryz.call176 (.cons rfl (.cons rfl .nil)) (c_Mul hk) ?_
  rintro _ w ⟨rfl, hE⟩; replace hS := hS.step hE; clear hE
  refine sv (yMove rfl) <| sv (yExt rfl rfl) <| sv (yExt rfl rfl) <| sv (yAsg rfl) <| sv (yAsg rfl) <| nil <| cwQ <| seq <| seq ?_
  refine region <| sv (yMove rfl) <| sv (yGtr rfl rfl) <| sv (yMove rfl) ?_
  refine sg rfl rfl rfl (fun g => (yMove rfl)) (fun v24 g24 => ?_)
  refine sg rfl rfl rfl (fun g => (yGtr (g24.1 g) rfl)) (fun v25 g25 => ?_)
  refine sv (yOr rfl rfl (fun hB => (g25.1 hB))) <| nil <| cwQ ?_
  refine cond rfl (fun c26 => ?_) (fun c26 => ?_)
  ·
   simp only [BS, ne_eq] at c26
   exfalso; omega
  ·
   simp only [BS, ne_eq] at c26
   refine skip <| cwQ <| seq <| region <| sv (yMove rfl) <| sv (yToI rfl Tryz.underlying218 Tryz.underlying3 ⟨by omega, by omega⟩) ?_
   refine smake (bytes := 16) (zs := [.int .i64 0, .int .i64 0]) (m := k) hS rfl rfl Tryz.underlying121 ti74 rfl rfl rfl rfl rfl (by omega) (by omega) ?_; clear hS; intro b30 w hS
   refine sv (yAsg rfl) <| nil <| cwQ <| seq <| region ?_
   rw [repS_zero s] at hS
   refine sv (yMove rfl) <| sv (yMove rfl) ?_
   refine scopyK (m := min 1 k) (news := (List.replicate (min 1 k) s).flatMap spanC) hS rfl rfl Tryz.underlying121 Tryz.sizeOf74 rfl (by rw [flat_len spanC_len, List.length_replicate]) (rep_src (l := [s]) (hS.ext.get hb) (take_min1 s k)) (by rw [flat_len spanC_len, flat_len spanC_len, repS_len (Nat.zero_le _), List.length_replicate]; omega) (rep_one _ _) ?_; clear hS; intro w hS; rw [show (0 : Nat) = 0 * 2 from rfl, repS_copy (by omega), Nat.zero_add] at hS
   refine sv (yAsg rfl) <| nil <| cwQ <| seq <| block <| loop (fun f w zz => ∃ (j : Nat), f 7 = .slice (some ⟨b30, 0, none⟩) k k ∧ f 8 = .int .i64 (j : Int) ∧ StX [] w0 w [blk b30 ((repS s j k).flatMap spanC) 74] ∧ (j ≤ k ∧ (k = 0 ∨ 1 ≤ j)) ∧ zz = k - j) _ ⟨_, rfl, min 1 k, rfl, rfl, hS, (⟨by omega, by omega⟩), rfl⟩ ?_
   clear hS
   rintro f w _ ⟨j, h7, h8, hS, hj, rfl⟩
   refine seq <| seq <| region <| sv (yMove h8) <| sv (yMove h7) <| sv (yLen rfl Tryz.underlying121) <| sv (yLss rfl rfl) <| nil <| cwQ ?_
   refine cond rfl (fun c37 => ?_) (fun c37 => ?_)
   ·
    simp only [BS, ne_eq] at c37
    refine skip <| cwQ <| block <| region_mix (fun w => StX [] w0 w []) 10 mixed hS ?_
    clear hS; intro w hS
    refine f_step 0 (by kernel_rfl) rfl (fun c a a' w h => by obtain ⟨_, v, hv, _⟩ := h; cases hv) (hS.sub (List.nil_sublist _)) (fun w hS => (yMove h8)) ?_
    refine f_step 1 (by kernel_rfl) rfl (fun c a a' w h => by obtain ⟨_, v, hv, _⟩ := h; cases hv) (hS.sub (List.nil_sublist _)) (fun w hS => (yMove h7)) ?_
    refine f_step 2 (by kernel_rfl) rfl (fun c a a' w h => by obtain ⟨_, v, hv, _⟩ := h; cases hv) (hS.sub (List.nil_sublist _)) (fun w hS => (yMove h8)) ?_
    refine f_step 3 (by kernel_rfl) rfl (fun c a a' w h => by obtain ⟨_, v, hv, _⟩ := h; cases hv) (hS.sub (List.nil_sublist _)) (fun w hS => (yTailLt rfl rfl Tryz.underlying121 Tryz.sizeOf74 (by omega) (by omega))) ?_
    refine f_step 4 (by kernel_rfl) rfl (fun c a a' w h => by obtain ⟨_, v, hv, _⟩ := h; cases hv) (hS.sub (List.nil_sublist _)) (fun w hS => (yMove h7)) ?_
    refine f_step 5 (by kernel_rfl) rfl (fun c a a' w h => by obtain ⟨_, v, hv, _⟩ := h; cases hv) (hS.sub (List.nil_sublist _)) (fun w hS => (yMove h8)) ?_
    refine f_step 6 (by kernel_rfl) rfl (fun c a a' w h => by obtain ⟨_, v, hv, _⟩ := h; cases hv) (hS.sub (List.nil_sublist _)) (fun w hS => (yHead ⟨_, rfl⟩ rfl rfl Tryz.underlying121 Tryz.sizeOf74 (by omega))) ?_
    refine awQ <| a1Q 7 (by kernel_rfl) rfl ?_
    refine scopyK (m := min j (k - j)) (news := (List.replicate (min j (k - j)) s).flatMap spanC) hS rfl rfl Tryz.underlying121 Tryz.sizeOf74 rfl (by rw [flat_len spanC_len, List.length_replicate]) (rep_src (hS.at b30) (repS_take (by omega))) (by rw [flat_len spanC_len, flat_len spanC_len, repS_len hj.1, List.length_replicate]; omega) (rep_one _ _) ?_; clear hS; intro w hS; rw [repS_copy (by omega)] at hS
    refine nil ?_
    refine ⟨fun _ => (hS.sub (List.nil_sublist _)), ?_⟩
    refine awQ ?_
    refine f_step 8 (by kernel_rfl) rfl (fun c a a' w h => by obtain ⟨_, v, hv, _⟩ := h; cases hv) (hS.sub (List.nil_sublist _)) (fun w hS => (Y.to (yAdd rfl rfl ⟨by omega, by omega⟩) rfl)) ?_
    refine f_step 9 (by kernel_rfl) rfl (fun c a a' w h => by obtain ⟨_, v, hv, _⟩ := h; cases hv) (hS.sub (List.nil_sublist _)) (fun w hS => (yAsg rfl)) ?_
    refine a_end (by kernel_rfl) ?_
    exact ⟨_, _, rfl, ⟨j + min j (k - j), h7, rfl, hS, (⟨by omega, by omega⟩), rfl⟩, by omega⟩
   ·
    simp only [BS, ne_eq] at c37
    refine exit <| cwQ <| seq <| region <| sv (yMove h7) <| sv (yAsg rfl) <| nil <| cwQ <| wp_ret ?_
    refine retQ (res1 rfl rfl) ?_
    obtain rfl : j = k := by omega
    rw [repS_full] at hS
    exact hS.toRow 2 j (by rw [flat_len spanC_len, List.length_replicate]) (by omega)
theorem c_CloneS {l : List Span} {a : Option Addr} {cap nn : Nat} {w0 : World} (hsl : Sl w0 2 RSpan (.slice a nn cap) l) (hn : l.length = nn) (hlen : nn ≤ 1000) : CE Tryz.prog 120 #[.slice a nn cap] w0 (fun u w' => St w0 w' [rowI u 74 2 nn (l.flatMap spanC)]) := by
 subst hn
 refine enter Tryz.func120 rfl Tryz.ntmps120 rfl ?_
 have hS := St.start w0
 refine seq <| region <| sv (yAsg rfl) <| nil <| cwQ <| seq <| seq <| region <| sv (yMove rfl) ?_
 refine sv (yEqNil rfl rfl Tryz.underlying121) <| nil <| cwQ ?_
 refine cond rfl (fun c4 => ?_) (fun c4 => ?_)
 ·
  obtain rfl : a = none := by cases a with | none => rfl | some _ => cases c4
  obtain rfl := sl_nil_of hsl
  refine seq <| region <| sv (yAsg rfl) <| nil <| cwQ ?_
  refine wp_ret (thenR ?_)
  refine retQ (res1 rfl rfl) ?_
  exact hS.nilrow 74 2
 ·
  refine skip <| cwQ <| seq <| region ?_
  refine sbslice0 hS Tryz.underlying121 Tryz.sizeOf74 ?_; clear hS; intro b5 w hS
  refine sv (yMove rfl) ?_
  refine sappS (bytes := 16) (size := 2) hS rfl rfl Tryz.underlying121 ti74 rfl rfl rfl rfl (by decide) Tryz.sizeOf74 (fun hh => by obtain ⟨bd, od, e1, e2⟩ := spans_news hsl hh; exact ⟨bd, od, e1, e2.ext hS.ext⟩) (by rw [flat_len spanC_len]) (spans_one l) (by omega) (by omega) ?_; clear hS; intro v7 w hS; rw [Nat.zero_add, List.nil_append] at hS
  refine sv (yAsg rfl) <| nil <| cwQ <| wp_ret <| retQ (res1 rfl rfl) ?_
  exact hS
theorem c_IndexSp {l : List Span} {p : Span → Bool} {v : Value} {g : Nat} {cl : List Value} {w0 : World} (hsl : Sl w0 2 RSpan v l) (hcall : ∀ ys w, (callFunc g ys).run Tryz.prog w = .ok (.enter g ys) w) (hp : ∀ x w, x ∈ l → Ext w0 w → CV Tryz.prog g (.agg (spanC x).toArray :: cl).toArray w (.bool (p x))) : CV Tryz.prog 180 #[v, .func (.func g) #[] cl.toArray] w0 (.int .i64 (idxF p l 0)) := by
 obtain ⟨a, cap, rfl, hcap, hmx, hel⟩ := hsl
 refine enter Tryz.func180 rfl Tryz.ntmps180 rfl ?_
 have hS := St.start w0
 refine seq <| region <| sv (yAsg rfl) <| nil <| cwQ <| seq <| seq <| region <| sv (yMove rfl) ?_
 refine sv (yLen rfl Tryz.underlying121) <| sv (yMove rfl) <| nil <| cwQ <| block <| loop (fun f w zz => ∃ (k : Nat), f 0 = .slice a l.length cap ∧ f 1 = .func (.func g) #[] cl.toArray ∧ f 7 = .int .i64 (l.length : Int) ∧ f 8 = .int .i64 (k : Int) ∧ StX [] w0 w [] ∧ (k ≤ l.length) ∧ (idxF p l 0 = idxF p (l.drop k) k) ∧ zz = l.length - k) _ ⟨_, rfl, 0, rfl, rfl, rfl, rfl, hS, (Nat.zero_le _), (rfl), rfl⟩ ?_
 clear hS
 rintro f w _ ⟨k, h0, h1, h7, h8, hS, hk, hI, rfl⟩
 refine seq <| region <| sv (yLss h8 h7) <| nil <| cwQ <| seq ?_
 refine cond rfl (fun c9 => ?_) (fun c9 => ?_)
 ·
  simp only [BS, ne_eq] at c9
  refine skip <| cwQ <| seq <| block <| seq <| region <| sv (yMove h8) <| sv (yAsg rfl) <| nil ?_
  refine cwQ <| seq <| region ?_
  obtain ⟨x, hx, hd⟩ := drop_of (l := l) (k := k) (by omega)
  obtain ⟨b, o, cs, ha, hlen, hcs, hR⟩ := hel k (by omega)
  obtain rfl : x = l[k] := (List.getElem?_eq_some_iff.1 hx).2.symm
  obtain ⟨rfl, -⟩ := hR
  refine sv (yMove h1) <| sv (yMove h0) <| sv (yMove rfl) <| sv (yIxa rfl ha rfl Tryz.runUnderlying121 Tryz.sizeOf74 (by omega) (by omega)) <| sv (yLdA rfl Tryz.isAgg74 Tryz.sizeOf74 (hcs.ext hS.ext) rfl) ?_
  refine scallf rfl hcall (.cons rfl .nil) (hp _ _ (List.getElem_mem _) hS.ext) ?_
  rintro _ w ⟨rfl, hE⟩; replace hS := hS.step hE; clear hE
  refine nil <| cwQ ?_
  refine cond rfl (fun c16 => ?_) (fun c16 => ?_)
  ·
   refine seq <| region <| sv (yMove rfl) <| sv (yAsg rfl) <| nil <| cwQ ?_
   refine wp_ret (blockR (thenR (thenR (blockR (thenR ?_)))))
   exact retV (res1 rfl (by rw [hI, hd, idxF, if_pos c16]; rfl)) hS.ext
  ·
   refine skip <| cwQ <| region <| sv (yAdd h8 rfl ⟨by omega, by omega⟩) <| sv (yMove rfl) <| nil ?_
   exact ⟨_, _, rfl, ⟨k + 1, h0, h1, h7, rfl, hS, (by omega), (by rw [hI, hd, idxF, if_neg (by simp [c16])]; rfl), rfl⟩, by omega⟩
 ·
  simp only [BS, ne_eq] at c9
  refine exit <| cwQ <| seq <| region <| sv (yAsg rfl) <| nil <| cwQ ?_
  obtain rfl : k = l.length := by omega
  refine wp_ret ?_
  exact retV (res1 rfl (by rw [hI, List.drop_length]; rfl)) hS.ext
theorem c_ContainsSp {l : List Span} {p : Span → Bool} {v : Value} {g : Nat} {cl : List Value} {w0 : World} (hsl : Sl w0 2 RSpan v l) (hcall : ∀ ys w, (callFunc g ys).run Tryz.prog w = .ok (.enter g ys) w) (hp : ∀ x w, x ∈ l → Ext w0 w → CV Tryz.prog g (.agg (spanC x).toArray :: cl).toArray w (.bool (p x))) : CV Tryz.prog 143 #[v, .func (.func g) #[] cl.toArray] w0 (.bool (l.any p)) := by
 refine enter Tryz.func143 rfl Tryz.ntmps143 rfl ?_
 have hS := St.start w0
 refine seq <| region <| sv (yAsg rfl) <| nil <| cwQ <| seq <| region <| sv (yMove rfl) <| sv (yMove rfl) ?_
 refine scall Tryz.call180 (.cons rfl (.cons rfl .nil)) (c_IndexSp hsl hcall hp) ?_
 rintro _ w ⟨rfl, hE⟩; replace hS := hS.step hE; clear hE
 refine sv (yGeq rfl rfl) <| sv (yAsg rfl) <| nil <| cwQ <| wp_ret ?_
 exact retV (res1 rfl (by rw [← idxF_any p l 0 (Int.le_refl 0)]; rfl)) hS.ext
theorem c_empty1 {x : Span} {w0 : World} : CV Tryz.prog 144 #[.agg (spanC x).toArray] w0 (.bool (decide (x.hi < x.lo))) := by
 refine enter Tryz.func144 rfl Tryz.ntmps144 rfl ?_
 have hS := St.start w0
 refine seq <| region ?_
 refine sbox hS rfl rfl ?_; clear hS; intro b1 w hS
 refine sv (yAsg rfl) <| nil <| cwQ <| seq <| region <| sv (fa74_0 rfl) <| sv (yLdB rfl Tryz.isAgg3 (hS.at _) rfl) <| sv (fa74_1 rfl) <| sv (yLdB rfl Tryz.isAgg3 (hS.at _) rfl) ?_
 refine sv (yGtr rfl rfl) <| sv (yAsg rfl) <| nil <| cwQ <| wp_ret ?_
 exact retV (res1 rfl rfl) hS.ext
theorem c_emptyS {l : List Span} {v : Value} {w0 : World} (hsl : Sl w0 2 RSpan v l) : CV Tryz.prog 92 #[v] w0 (.bool (emptyS l)) := by
 refine enter Tryz.func92 rfl Tryz.ntmps92 rfl ?_
 have hS := St.start w0
 refine seq <| region <| sv (yAsg rfl) <| nil <| cwQ <| seq <| region <| sv (yMove rfl) ?_
 refine scall Tryz.call143 (.cons rfl (.cons rfl .nil)) (c_ContainsSp (p := fun x => decide (x.hi < x.lo)) (cl := []) (hsl.ext RSpan.stays hS.ext) Tryz.call144 (fun x w hx e => c_empty1)) ?_
 rintro _ w ⟨rfl, hE⟩; replace hS := hS.step hE; clear hE
 refine sv (yAsg rfl) <| nil <| cwQ <| wp_ret ?_
 exact retV (res1 rfl rfl) hS.ext
end Go.Proofs.YtgidbailiababaaGreatDoor

/- part Sw5 -/
namespace Go.Proofs.YtgidbailiababaaGreatDoor
open Go Bx
set_option maxHeartbeats 1000000 in
theorem c_meetS {ss os : List Span} {g cap o m capS nn : Nat} {ov : Value} {w0 w : World} {L9 : List Bx.Item} (hS : StX [] w0 w (rowI (.slice (some ⟨g, 0, none⟩) nn cap) 74 2 nn ((ss).flatMap spanC) :: L9)) (ho : ∀ (q : List Span) w', StX [] w0 w' (rowI (.slice (some ⟨g, 0, none⟩) nn cap) 74 2 nn ((q).flatMap spanC) :: L9) → Sl w' 2 RSpan ov os) (hl : os.length ≤ m) (hn : ss.length = nn) (hm : o + m ≤ nn) (hmx : m ≤ 9223372036854775807) : CE Tryz.prog 82 #[.slice (some ⟨g, o * 2, none⟩) m capS, ov] w (fun u w' => u = .tuple #[] ∧ StX [] w0 w' (rowI (.slice (some ⟨g, 0, none⟩) nn cap) 74 2 nn ((meetK ss os o os.length).flatMap spanC) :: L9)) := by
 obtain ⟨ao, co, rfl, hocap, homx, -⟩ := id (ho ss w hS)
 refine enter Tryz.func82 rfl Tryz.ntmps82 rfl ?_
 skip
 refine seq <| region <| sv (yMove rfl) <| sv (yLen rfl Tryz.underlying121) <| sv (yMove rfl) <| nil <| cwQ <| block <| loop (fun f w zz => ∃ (k : Nat), f 0 = .slice (some ⟨g, o * 2, none⟩) m capS ∧ f 6 = .slice ao os.length co ∧ f 7 = .int .i64 (os.length : Int) ∧ f 8 = .int .i64 (k : Int) ∧ StX [] w0 w ((rowI (.slice (some ⟨g, 0, none⟩) nn cap) 74 2 nn ((meetK ss os o k).flatMap spanC) :: L9)) ∧ (k ≤ os.length) ∧ zz = os.length - k) _ ⟨_, rfl, 0, rfl, rfl, rfl, rfl, hS, (Nat.zero_le _), rfl⟩ ?_
 clear hS
 rintro f w _ ⟨k, h0, h6, h7, h8, hS, hk, rfl⟩
 refine seq <| region <| sv (yLss h8 h7) <| nil <| cwQ <| seq ?_
 refine cond rfl (fun c9 => ?_) (fun c9 => ?_)
 ·
  simp only [BS, ne_eq] at c9
  have hkl : k < os.length := by omega
  obtain ⟨bx, ox, cx, hax, hlx, hcx, hRx, -⟩ := sl_at (ho _ w hS) (spn_get (l := os) hkl)
  obtain ⟨rfl, -⟩ := hRx
  refine skip <| cwQ <| seq <| block <| seq <| region <| sv (yMove h8) <| sv (yIxa h6 hax h8 Tryz.runUnderlying121 Tryz.sizeOf74 (by omega) (by omega)) <| sv (yLdA rfl Tryz.isAgg74 Tryz.sizeOf74 hcx rfl) ?_
  refine salloc hS Tryz.zeroValue74 rfl ?_; clear hS; intro b5 w hS
  refine sv (yAsg rfl) ?_
  refine sst hS rfl rfl Tryz.sizeOf74 rfl rfl rfl rfl ?_; clear hS; intro w hS
  refine nil <| cwQ <| region_mix (fun w => StX [] w0 w (blk b5 (spanC (spn os k)) 74 :: rowI (.slice (some ⟨g, 0, none⟩) nn cap) 74 2 nn ((meetK ss os o k).flatMap spanC) :: L9)) 20 mixed hS ?_
  clear hS; intro w hS
  refine f_step 0 (by kernel_rfl) rfl (fun c a a' w h => by obtain ⟨_, v, hv, _⟩ := h; cases hv) (by first | exact hS | exact hS.sub (.cons _ lrQ) | exact hS.sub (.cons _ (.cons _ lrQ)) | exact hS.sub (.cons _ (.cons _ (.cons _ lrQ)))) (fun w hS => (yMove h0)) ?_
  refine f_step 1 (by kernel_rfl) rfl (fun c a a' w h => by obtain ⟨_, v, hv, _⟩ := h; cases hv) (by first | exact hS | exact hS.sub (.cons _ lrQ) | exact hS.sub (.cons _ (.cons _ lrQ)) | exact hS.sub (.cons _ (.cons _ (.cons _ lrQ)))) (fun w hS => (yMove rfl)) ?_
  refine f_step 2 (by kernel_rfl) rfl (fun c a a' w h => by obtain ⟨_, v, hv, _⟩ := h; cases hv) (by first | exact hS | exact hS.sub (.cons _ lrQ) | exact hS.sub (.cons _ (.cons _ lrQ)) | exact hS.sub (.cons _ (.cons _ (.cons _ lrQ)))) (fun w hS => (yMove h0)) ?_
  refine f_step 3 (by kernel_rfl) rfl (fun c a a' w h => by obtain ⟨_, v, hv, _⟩ := h; cases hv) (by first | exact hS | exact hS.sub (.cons _ lrQ) | exact hS.sub (.cons _ (.cons _ lrQ)) | exact hS.sub (.cons _ (.cons _ (.cons _ lrQ)))) (fun w hS => (yMove rfl)) ?_
  refine f_step 4 (by kernel_rfl) rfl (fun c a a' w h => by obtain ⟨_, v, hv, _⟩ := h; cases hv) (by first | exact hS | exact hS.sub (.cons _ lrQ) | exact hS.sub (.cons _ (.cons _ lrQ)) | exact hS.sub (.cons _ (.cons _ (.cons _ lrQ)))) (fun w hS => (Y.to (yIxa rfl rfl rfl Tryz.runUnderlying121 Tryz.sizeOf74 (by omega) (by omega)) (congrArg (fun q => Value.pointer (some ⟨g, q, none⟩)) (show o * 2 + k * 2 = (o + k) * 2 by omega)))) ?_
  refine f_step 5 (by kernel_rfl) rfl (fun c a a' w h => by obtain ⟨_, v, hv, _⟩ := h; cases hv) (by first | exact hS | exact hS.sub (.cons _ lrQ) | exact hS.sub (.cons _ (.cons _ lrQ)) | exact hS.sub (.cons _ (.cons _ (.cons _ lrQ)))) (fun w hS => (fa74_0 rfl)) ?_
  refine f_step 6 (by kernel_rfl) rfl (fun c a a' w h => by obtain ⟨_, v, hv, _⟩ := h; cases hv) (by first | exact hS | exact hS.sub (.cons _ lrQ) | exact hS.sub (.cons _ (.cons _ lrQ)) | exact hS.sub (.cons _ (.cons _ (.cons _ lrQ)))) (fun w hS => (yLd rfl Tryz.isAgg3 ((flat_cells0 (enc := spanC) spanC_len (row_at (hS.row (.slice (some ⟨g, 0, none⟩) nn cap)) rfl (by omega)) (spn_get (l := meetK ss os o k) (i := o + k) (by rw [meetK_len]; omega))).at (j := 0) rfl))) ?_
  refine f_step 7 (by kernel_rfl) rfl (fun c a a' w h => by obtain ⟨_, v, hv, _⟩ := h; cases hv) (by first | exact hS | exact hS.sub (.cons _ lrQ) | exact hS.sub (.cons _ (.cons _ lrQ)) | exact hS.sub (.cons _ (.cons _ (.cons _ lrQ)))) (fun w hS => (fa74_0 rfl)) ?_
  refine f_step 8 (by kernel_rfl) rfl (fun c a a' w h => by obtain ⟨_, v, hv, _⟩ := h; cases hv) (by first | exact hS | exact hS.sub (.cons _ lrQ) | exact hS.sub (.cons _ (.cons _ lrQ)) | exact hS.sub (.cons _ (.cons _ (.cons _ lrQ)))) (fun w hS => (yLdB rfl Tryz.isAgg3 (hS.at _) rfl)) ?_
  refine f_step 9 (by kernel_rfl) rfl (fun c a a' w h => by obtain ⟨_, v, hv, _⟩ := h; cases hv) (by first | exact hS | exact hS.sub (.cons _ lrQ) | exact hS.sub (.cons _ (.cons _ lrQ)) | exact hS.sub (.cons _ (.cons _ (.cons _ lrQ)))) (fun w hS => (yMax rfl rfl)) ?_
  refine f_step 10 (by kernel_rfl) rfl (fun c a a' w h => by obtain ⟨_, v, hv, _⟩ := h; cases hv) (by first | exact hS | exact hS.sub (.cons _ lrQ) | exact hS.sub (.cons _ (.cons _ lrQ)) | exact hS.sub (.cons _ (.cons _ (.cons _ lrQ)))) (fun w hS => (yMove h0)) ?_
  refine f_step 11 (by kernel_rfl) rfl (fun c a a' w h => by obtain ⟨_, v, hv, _⟩ := h; cases hv) (by first | exact hS | exact hS.sub (.cons _ lrQ) | exact hS.sub (.cons _ (.cons _ lrQ)) | exact hS.sub (.cons _ (.cons _ (.cons _ lrQ)))) (fun w hS => (yMove rfl)) ?_
  refine f_step 12 (by kernel_rfl) rfl (fun c a a' w h => by obtain ⟨_, v, hv, _⟩ := h; cases hv) (by first | exact hS | exact hS.sub (.cons _ lrQ) | exact hS.sub (.cons _ (.cons _ lrQ)) | exact hS.sub (.cons _ (.cons _ (.cons _ lrQ)))) (fun w hS => (Y.to (yIxa rfl rfl rfl Tryz.runUnderlying121 Tryz.sizeOf74 (by omega) (by omega)) (congrArg (fun q => Value.pointer (some ⟨g, q, none⟩)) (show o * 2 + k * 2 = (o + k) * 2 by omega)))) ?_
  refine f_step 13 (by kernel_rfl) rfl (fun c a a' w h => by obtain ⟨_, v, hv, _⟩ := h; cases hv) (by first | exact hS | exact hS.sub (.cons _ lrQ) | exact hS.sub (.cons _ (.cons _ lrQ)) | exact hS.sub (.cons _ (.cons _ (.cons _ lrQ)))) (fun w hS => (fa74_1 rfl)) ?_
  refine f_step 14 (by kernel_rfl) rfl (fun c a a' w h => by obtain ⟨_, v, hv, _⟩ := h; cases hv) (by first | exact hS | exact hS.sub (.cons _ lrQ) | exact hS.sub (.cons _ (.cons _ lrQ)) | exact hS.sub (.cons _ (.cons _ (.cons _ lrQ)))) (fun w hS => (yLd rfl Tryz.isAgg3 ((flat_cells0 (enc := spanC) spanC_len (row_at (hS.row (.slice (some ⟨g, 0, none⟩) nn cap)) rfl (by omega)) (spn_get (l := meetK ss os o k) (i := o + k) (by rw [meetK_len]; omega))).at (j := 1) rfl))) ?_
  refine f_step 15 (by kernel_rfl) rfl (fun c a a' w h => by obtain ⟨_, v, hv, _⟩ := h; cases hv) (by first | exact hS | exact hS.sub (.cons _ lrQ) | exact hS.sub (.cons _ (.cons _ lrQ)) | exact hS.sub (.cons _ (.cons _ (.cons _ lrQ)))) (fun w hS => (fa74_1 rfl)) ?_
  refine f_step 16 (by kernel_rfl) rfl (fun c a a' w h => by obtain ⟨_, v, hv, _⟩ := h; cases hv) (by first | exact hS | exact hS.sub (.cons _ lrQ) | exact hS.sub (.cons _ (.cons _ lrQ)) | exact hS.sub (.cons _ (.cons _ (.cons _ lrQ)))) (fun w hS => (yLdB rfl Tryz.isAgg3 (hS.at _) rfl)) ?_
  refine f_step 17 (by kernel_rfl) rfl (fun c a a' w h => by obtain ⟨_, v, hv, _⟩ := h; cases hv) (by first | exact hS | exact hS.sub (.cons _ lrQ) | exact hS.sub (.cons _ (.cons _ lrQ)) | exact hS.sub (.cons _ (.cons _ (.cons _ lrQ)))) (fun w hS => (yMin rfl rfl)) ?_
  refine f_step 18 (by kernel_rfl) rfl (fun c a a' w h => by obtain ⟨_, v, hv, _⟩ := h; cases hv) (by first | exact hS | exact hS.sub (.cons _ lrQ) | exact hS.sub (.cons _ (.cons _ lrQ)) | exact hS.sub (.cons _ (.cons _ (.cons _ lrQ)))) (fun w hS => (yBuild Tryz.zeroValue74 rfl pl74 (.cons rfl rfl (.cons rfl rfl .nil)) rfl)) ?_
  refine f_step 19 (by kernel_rfl) rfl (fun c a a' w h => by obtain ⟨_, v, hv, _⟩ := h; cases hv) (by first | exact hS | exact hS.sub (.cons _ lrQ) | exact hS.sub (.cons _ (.cons _ lrQ)) | exact hS.sub (.cons _ (.cons _ (.cons _ lrQ)))) (fun w hS => (Y.to (yIxa rfl rfl rfl Tryz.runUnderlying121 Tryz.sizeOf74 (by omega) (by omega)) (congrArg (fun q => Value.pointer (some ⟨g, q, none⟩)) (show o * 2 + k * 2 = (o + k) * 2 by omega)))) ?_
  refine awQ <| a1Q 20 (by kernel_rfl) rfl ?_
  refine srst (m := nn) (cap := cap) (sz := 2) (vs := spanC (cutS (spn (meetK ss os o k) (o + k)) (spn os k))) hS rfl rfl Tryz.sizeOf74 rfl rfl (by omega) rfl ?_; clear hS; intro w hS
  rw [splice_enc spanC_len _ _ _ (by rw [meetK_len]; omega)] at hS
  refine nil ?_
  refine ⟨fun h => absurd h (by decide), ?_⟩
  refine awQ <| a_end (by kernel_rfl) <| cwQ <| region <| sv (yAdd h8 rfl ⟨by omega, by omega⟩) <| sv (yMove rfl) <| nil ?_
  exact ⟨_, _, rfl, ⟨k + 1, h0, h6, h7, rfl, (hS.sub (.cons _ lrQ)), (by omega), rfl⟩, by omega⟩
 ·
  simp only [BS, ne_eq] at c9
  obtain rfl : k = os.length := by omega
  refine exit <| thenOut <| thenOut <| blockIn ?_
  show bodyPost _ _ _ .normal _ _
  refine retN (results_none rfl _ _ _) ?_
  exact ⟨rfl, hS⟩
set_option maxHeartbeats 1000000 in
theorem c_tight1 {ss : List Span} {g cap b2 b3 i k m : Nat} {r : Int} {w0 w : World} {L9 : List Bx.Item} (hS : StX [] w0 w (rowI (.slice (some ⟨g, 0, none⟩) m cap) 74 2 m ((ss).flatMap spanC) :: blk b2 [.slice (some ⟨g, 0, none⟩) m cap] 121 :: blk b3 [.int .i64 r] 3 :: L9)) (hl : ss.length = m) (hi : i < m) (hk : k < m) (hmx : m ≤ 9223372036854775807) (hb : SBd 40000000 (spn ss k)) (hr : 0 ≤ r ∧ r ≤ 5000) : CE Tryz.prog 141 #[.int .i64 (i : Int), .int .i64 (k : Int), .pointer (some ⟨b2, 0, none⟩), .pointer (some ⟨b3, 0, none⟩)] w (fun u w' => u = .tuple #[] ∧ StX [] w0 w' (rowI (.slice (some ⟨g, 0, none⟩) m cap) 74 2 m ((ss.set i (nearS r (spn ss i) (spn ss k))).flatMap spanC) :: blk b2 [.slice (some ⟨g, 0, none⟩) m cap] 121 :: blk b3 [.int .i64 r] 3 :: L9)) := by
 unfold SBd at hb
 refine enter Tryz.func141 rfl Tryz.ntmps141 rfl ?_
 skip
 refine region_mix (fun w => StX [] w0 w (rowI (.slice (some ⟨g, 0, none⟩) m cap) 74 2 m ((ss).flatMap spanC) :: blk b2 [.slice (some ⟨g, 0, none⟩) m cap] 121 :: blk b3 [.int .i64 r] 3 :: L9)) 30 mixed hS ?_
 clear hS; intro w hS
 refine f_step 0 (by kernel_rfl) rfl (fun c a a' w h => by obtain ⟨_, v, hv, _⟩ := h; cases hv) (by first | exact hS | exact hS.sub (.cons _ lrQ) | exact hS.sub (.cons _ (.cons _ lrQ)) | exact hS.sub (.cons _ (.cons _ (.cons _ lrQ)))) (fun w hS => (yLdB rfl Tryz.isAgg121 (hS.at b2) rfl)) ?_
 refine f_step 1 (by kernel_rfl) rfl (fun c a a' w h => by obtain ⟨_, v, hv, _⟩ := h; cases hv) (by first | exact hS | exact hS.sub (.cons _ lrQ) | exact hS.sub (.cons _ (.cons _ lrQ)) | exact hS.sub (.cons _ (.cons _ (.cons _ lrQ)))) (fun w hS => (yMove rfl)) ?_
 refine f_step 2 (by kernel_rfl) rfl (fun c a a' w h => by obtain ⟨_, v, hv, _⟩ := h; cases hv) (by first | exact hS | exact hS.sub (.cons _ lrQ) | exact hS.sub (.cons _ (.cons _ lrQ)) | exact hS.sub (.cons _ (.cons _ (.cons _ lrQ)))) (fun w hS => (yLdB rfl Tryz.isAgg121 (hS.at b2) rfl)) ?_
 refine f_step 3 (by kernel_rfl) rfl (fun c a a' w h => by obtain ⟨_, v, hv, _⟩ := h; cases hv) (by first | exact hS | exact hS.sub (.cons _ lrQ) | exact hS.sub (.cons _ (.cons _ lrQ)) | exact hS.sub (.cons _ (.cons _ (.cons _ lrQ)))) (fun w hS => (yMove rfl)) ?_
 refine f_step 4 (by kernel_rfl) rfl (fun c a a' w h => by obtain ⟨_, v, hv, _⟩ := h; cases hv) (by first | exact hS | exact hS.sub (.cons _ lrQ) | exact hS.sub (.cons _ (.cons _ lrQ)) | exact hS.sub (.cons _ (.cons _ (.cons _ lrQ)))) (fun w hS => (yIx0 (m := i) rfl rfl Tryz.runUnderlying121 Tryz.sizeOf74 (by omega))) ?_
 refine f_step 5 (by kernel_rfl) rfl (fun c a a' w h => by obtain ⟨_, v, hv, _⟩ := h; cases hv) (by first | exact hS | exact hS.sub (.cons _ lrQ) | exact hS.sub (.cons _ (.cons _ lrQ)) | exact hS.sub (.cons _ (.cons _ (.cons _ lrQ)))) (fun w hS => (fa74_0 rfl)) ?_
 refine f_step 6 (by kernel_rfl) rfl (fun c a a' w h => by obtain ⟨_, v, hv, _⟩ := h; cases hv) (by first | exact hS | exact hS.sub (.cons _ lrQ) | exact hS.sub (.cons _ (.cons _ lrQ)) | exact hS.sub (.cons _ (.cons _ (.cons _ lrQ)))) (fun w hS => (yLd rfl Tryz.isAgg3 ((flat_cells0 (enc := spanC) spanC_len (row_at (hS.row (.slice (some ⟨g, 0, none⟩) m cap)) rfl (by omega)) (spn_get (l := ss) (i := i) (by omega))).at (j := 0) rfl))) ?_
 refine f_step 7 (by kernel_rfl) rfl (fun c a a' w h => by obtain ⟨_, v, hv, _⟩ := h; cases hv) (by first | exact hS | exact hS.sub (.cons _ lrQ) | exact hS.sub (.cons _ (.cons _ lrQ)) | exact hS.sub (.cons _ (.cons _ (.cons _ lrQ)))) (fun w hS => (yLdB rfl Tryz.isAgg121 (hS.at b2) rfl)) ?_
 refine f_step 8 (by kernel_rfl) rfl (fun c a a' w h => by obtain ⟨_, v, hv, _⟩ := h; cases hv) (by first | exact hS | exact hS.sub (.cons _ lrQ) | exact hS.sub (.cons _ (.cons _ lrQ)) | exact hS.sub (.cons _ (.cons _ (.cons _ lrQ)))) (fun w hS => (yMove rfl)) ?_
 refine f_step 9 (by kernel_rfl) rfl (fun c a a' w h => by obtain ⟨_, v, hv, _⟩ := h; cases hv) (by first | exact hS | exact hS.sub (.cons _ lrQ) | exact hS.sub (.cons _ (.cons _ lrQ)) | exact hS.sub (.cons _ (.cons _ (.cons _ lrQ)))) (fun w hS => (yIx0 (m := k) rfl rfl Tryz.runUnderlying121 Tryz.sizeOf74 (by omega))) ?_
 refine f_step 10 (by kernel_rfl) rfl (fun c a a' w h => by obtain ⟨_, v, hv, _⟩ := h; cases hv) (by first | exact hS | exact hS.sub (.cons _ lrQ) | exact hS.sub (.cons _ (.cons _ lrQ)) | exact hS.sub (.cons _ (.cons _ (.cons _ lrQ)))) (fun w hS => (fa74_0 rfl)) ?_
 refine f_step 11 (by kernel_rfl) rfl (fun c a a' w h => by obtain ⟨_, v, hv, _⟩ := h; cases hv) (by first | exact hS | exact hS.sub (.cons _ lrQ) | exact hS.sub (.cons _ (.cons _ lrQ)) | exact hS.sub (.cons _ (.cons _ (.cons _ lrQ)))) (fun w hS => (yLd rfl Tryz.isAgg3 ((flat_cells0 (enc := spanC) spanC_len (row_at (hS.row (.slice (some ⟨g, 0, none⟩) m cap)) rfl (by omega)) (spn_get (l := ss) (i := k) (by omega))).at (j := 0) rfl))) ?_
 refine f_step 12 (by kernel_rfl) rfl (fun c a a' w h => by obtain ⟨_, v, hv, _⟩ := h; cases hv) (by first | exact hS | exact hS.sub (.cons _ lrQ) | exact hS.sub (.cons _ (.cons _ lrQ)) | exact hS.sub (.cons _ (.cons _ (.cons _ lrQ)))) (fun w hS => (yLdB rfl Tryz.isAgg3 (hS.at b3) rfl)) ?_
 refine f_step 13 (by kernel_rfl) rfl (fun c a a' w h => by obtain ⟨_, v, hv, _⟩ := h; cases hv) (by first | exact hS | exact hS.sub (.cons _ lrQ) | exact hS.sub (.cons _ (.cons _ lrQ)) | exact hS.sub (.cons _ (.cons _ (.cons _ lrQ)))) (fun w hS => (ySub rfl rfl ⟨by omega, by omega⟩)) ?_
 refine f_step 14 (by kernel_rfl) rfl (fun c a a' w h => by obtain ⟨_, v, hv, _⟩ := h; cases hv) (by first | exact hS | exact hS.sub (.cons _ lrQ) | exact hS.sub (.cons _ (.cons _ lrQ)) | exact hS.sub (.cons _ (.cons _ (.cons _ lrQ)))) (fun w hS => (yMax rfl rfl)) ?_
 refine f_step 15 (by kernel_rfl) rfl (fun c a a' w h => by obtain ⟨_, v, hv, _⟩ := h; cases hv) (by first | exact hS | exact hS.sub (.cons _ lrQ) | exact hS.sub (.cons _ (.cons _ lrQ)) | exact hS.sub (.cons _ (.cons _ (.cons _ lrQ)))) (fun w hS => (yLdB rfl Tryz.isAgg121 (hS.at b2) rfl)) ?_
 refine f_step 16 (by kernel_rfl) rfl (fun c a a' w h => by obtain ⟨_, v, hv, _⟩ := h; cases hv) (by first | exact hS | exact hS.sub (.cons _ lrQ) | exact hS.sub (.cons _ (.cons _ lrQ)) | exact hS.sub (.cons _ (.cons _ (.cons _ lrQ)))) (fun w hS => (yMove rfl)) ?_
 refine f_step 17 (by kernel_rfl) rfl (fun c a a' w h => by obtain ⟨_, v, hv, _⟩ := h; cases hv) (by first | exact hS | exact hS.sub (.cons _ lrQ) | exact hS.sub (.cons _ (.cons _ lrQ)) | exact hS.sub (.cons _ (.cons _ (.cons _ lrQ)))) (fun w hS => (yIx0 (m := i) rfl rfl Tryz.runUnderlying121 Tryz.sizeOf74 (by omega))) ?_
 refine f_step 18 (by kernel_rfl) rfl (fun c a a' w h => by obtain ⟨_, v, hv, _⟩ := h; cases hv) (by first | exact hS | exact hS.sub (.cons _ lrQ) | exact hS.sub (.cons _ (.cons _ lrQ)) | exact hS.sub (.cons _ (.cons _ (.cons _ lrQ)))) (fun w hS => (fa74_1 rfl)) ?_
 refine f_step 19 (by kernel_rfl) rfl (fun c a a' w h => by obtain ⟨_, v, hv, _⟩ := h; cases hv) (by first | exact hS | exact hS.sub (.cons _ lrQ) | exact hS.sub (.cons _ (.cons _ lrQ)) | exact hS.sub (.cons _ (.cons _ (.cons _ lrQ)))) (fun w hS => (yLd rfl Tryz.isAgg3 ((flat_cells0 (enc := spanC) spanC_len (row_at (hS.row (.slice (some ⟨g, 0, none⟩) m cap)) rfl (by omega)) (spn_get (l := ss) (i := i) (by omega))).at (j := 1) rfl))) ?_
 refine f_step 20 (by kernel_rfl) rfl (fun c a a' w h => by obtain ⟨_, v, hv, _⟩ := h; cases hv) (by first | exact hS | exact hS.sub (.cons _ lrQ) | exact hS.sub (.cons _ (.cons _ lrQ)) | exact hS.sub (.cons _ (.cons _ (.cons _ lrQ)))) (fun w hS => (yLdB rfl Tryz.isAgg121 (hS.at b2) rfl)) ?_
 refine f_step 21 (by kernel_rfl) rfl (fun c a a' w h => by obtain ⟨_, v, hv, _⟩ := h; cases hv) (by first | exact hS | exact hS.sub (.cons _ lrQ) | exact hS.sub (.cons _ (.cons _ lrQ)) | exact hS.sub (.cons _ (.cons _ (.cons _ lrQ)))) (fun w hS => (yMove rfl)) ?_
 refine f_step 22 (by kernel_rfl) rfl (fun c a a' w h => by obtain ⟨_, v, hv, _⟩ := h; cases hv) (by first | exact hS | exact hS.sub (.cons _ lrQ) | exact hS.sub (.cons _ (.cons _ lrQ)) | exact hS.sub (.cons _ (.cons _ (.cons _ lrQ)))) (fun w hS => (yIx0 (m := k) rfl rfl Tryz.runUnderlying121 Tryz.sizeOf74 (by omega))) ?_
 refine f_step 23 (by kernel_rfl) rfl (fun c a a' w h => by obtain ⟨_, v, hv, _⟩ := h; cases hv) (by first | exact hS | exact hS.sub (.cons _ lrQ) | exact hS.sub (.cons _ (.cons _ lrQ)) | exact hS.sub (.cons _ (.cons _ (.cons _ lrQ)))) (fun w hS => (fa74_1 rfl)) ?_
 refine f_step 24 (by kernel_rfl) rfl (fun c a a' w h => by obtain ⟨_, v, hv, _⟩ := h; cases hv) (by first | exact hS | exact hS.sub (.cons _ lrQ) | exact hS.sub (.cons _ (.cons _ lrQ)) | exact hS.sub (.cons _ (.cons _ (.cons _ lrQ)))) (fun w hS => (yLd rfl Tryz.isAgg3 ((flat_cells0 (enc := spanC) spanC_len (row_at (hS.row (.slice (some ⟨g, 0, none⟩) m cap)) rfl (by omega)) (spn_get (l := ss) (i := k) (by omega))).at (j := 1) rfl))) ?_
 refine f_step 25 (by kernel_rfl) rfl (fun c a a' w h => by obtain ⟨_, v, hv, _⟩ := h; cases hv) (by first | exact hS | exact hS.sub (.cons _ lrQ) | exact hS.sub (.cons _ (.cons _ lrQ)) | exact hS.sub (.cons _ (.cons _ (.cons _ lrQ)))) (fun w hS => (yLdB rfl Tryz.isAgg3 (hS.at b3) rfl)) ?_
 refine f_step 26 (by kernel_rfl) rfl (fun c a a' w h => by obtain ⟨_, v, hv, _⟩ := h; cases hv) (by first | exact hS | exact hS.sub (.cons _ lrQ) | exact hS.sub (.cons _ (.cons _ lrQ)) | exact hS.sub (.cons _ (.cons _ (.cons _ lrQ)))) (fun w hS => (yAdd rfl rfl ⟨by omega, by omega⟩)) ?_
 refine f_step 27 (by kernel_rfl) rfl (fun c a a' w h => by obtain ⟨_, v, hv, _⟩ := h; cases hv) (by first | exact hS | exact hS.sub (.cons _ lrQ) | exact hS.sub (.cons _ (.cons _ lrQ)) | exact hS.sub (.cons _ (.cons _ (.cons _ lrQ)))) (fun w hS => (yMin rfl rfl)) ?_
 refine f_step 28 (by kernel_rfl) rfl (fun c a a' w h => by obtain ⟨_, v, hv, _⟩ := h; cases hv) (by first | exact hS | exact hS.sub (.cons _ lrQ) | exact hS.sub (.cons _ (.cons _ lrQ)) | exact hS.sub (.cons _ (.cons _ (.cons _ lrQ)))) (fun w hS => (yBuild Tryz.zeroValue74 rfl pl74 (.cons rfl rfl (.cons rfl rfl .nil)) rfl)) ?_
 refine f_step 29 (by kernel_rfl) rfl (fun c a a' w h => by obtain ⟨_, v, hv, _⟩ := h; cases hv) (by first | exact hS | exact hS.sub (.cons _ lrQ) | exact hS.sub (.cons _ (.cons _ lrQ)) | exact hS.sub (.cons _ (.cons _ (.cons _ lrQ)))) (fun w hS => (yIx0 (m := i) rfl rfl Tryz.runUnderlying121 Tryz.sizeOf74 (by omega))) ?_
 refine awQ <| a1Q 30 (by kernel_rfl) rfl ?_
 refine srst (m := m) (cap := cap) (sz := 2) (vs := spanC (nearS r (spn ss i) (spn ss k))) hS rfl rfl Tryz.sizeOf74 rfl rfl (by omega) rfl ?_; clear hS; intro w hS
 rw [splice_enc spanC_len _ _ _ (by omega)] at hS
 refine nil ?_
 refine ⟨fun h => absurd h (by decide), ?_⟩
 refine awQ <| a_end (by kernel_rfl) ?_
 show bodyPost _ _ _ .normal _ _
 refine retN (results_none rfl _ _ _) ?_
 exact ⟨rfl, hS⟩
set_option maxHeartbeats 1000000 in
theorem c_tighten {l : List Span} {g cap : Nat} {r : Int} {w0 w : World} {L9 : List Bx.Item} (hS : StX [] w0 w (rowI (.slice (some ⟨g, 0, none⟩) l.length cap) 74 2 l.length ((l).flatMap spanC) :: L9)) (hmx : l.length ≤ 1000) (hlb : LBd 40000000 l) (hr : 0 ≤ r ∧ r ≤ 5000) : CE Tryz.prog 84 #[.slice (some ⟨g, 0, none⟩) l.length cap, .int .i64 r] w (fun u w' => u = .bool (someT r l) ∧ ∃ q : List Span, (someT r l = true → q = tightS r l) ∧ StX [] w0 w' (rowI (.slice (some ⟨g, 0, none⟩) l.length cap) 74 2 l.length ((q).flatMap spanC) :: L9)) := by
 refine enter Tryz.func84 rfl Tryz.ntmps84 rfl ?_
 skip
 refine seq <| region ?_
 refine sbox hS rfl rfl ?_; clear hS; intro b2 w hS
 refine sbox hS rfl rfl ?_; clear hS; intro b3 w hS
 refine sv (yAsg rfl) <| nil <| cwQ <| seq <| seq <| region ?_
 replace hS := hS.perm (tight_perm _ _ _ _)
 refine sv (yLdB rfl Tryz.isAgg121 (hS.at _) rfl) ?_
 refine scall Tryz.call92 (.cons rfl .nil) (c_emptyS (sl_spans (hS.row (.slice (some ⟨g, 0, none⟩) l.length cap)) rfl (lbd_i64 hlb))) ?_
 rintro _ w ⟨rfl, hE⟩; replace hS := hS.step hE; clear hE
 refine nil <| cwQ ?_
 refine cond rfl (fun c9 => ?_) (fun c9 => ?_)
 ·
  have hst : someT r l = false := by unfold someT; rw [c9]; rfl
  refine seq <| region <| sv (yAsg rfl) <| nil <| cwQ ?_
  refine wp_ret (thenR ?_)
  refine retQ (res1 rfl rfl) ?_
  exact ⟨by rw [hst]; rfl, l, (fun k => by rw [hst] at k; cases k), hS.sub (.cons_cons _ (.cons _ (.cons _ lrQ)))⟩
 ·
  have hpos : 0 < l.length ∨ l.length = 0 := by omega
  refine skip <| cwQ <| seq <| region <| sv (yFn (.cons rfl (.cons rfl .nil))) <| sv (yAsg rfl) <| nil <| cwQ <| seq ?_
  refine seq <| region <| sv (yAsg rfl) <| nil <| cwQ <| block ?_
  refine loop (fun f w zz => ∃ (i : Nat), f 2 = .pointer (some ⟨b2, 0, none⟩) ∧ f 3 = .pointer (some ⟨b3, 0, none⟩) ∧ f 5 = .func (.func 141) #[] #[.pointer (some ⟨b2, 0, none⟩), .pointer (some ⟨b3, 0, none⟩)] ∧ f 6 = .int .i64 (i : Int) ∧ StX [] w0 w ((rowI (.slice (some ⟨g, 0, none⟩) l.length cap) 74 2 l.length ((fwL r l i).flatMap spanC) :: blk b2 [.slice (some ⟨g, 0, none⟩) l.length cap] 121 :: blk b3 [.int .i64 r] 3 :: L9)) ∧ (1 ≤ i ∧ (i ≤ l.length ∨ i = 1)) ∧ zz = l.length - i) _ ⟨_, rfl, 1, rfl, rfl, rfl, rfl, (by rw [fwL_1]; exact hS), (⟨Nat.le_refl _, .inr rfl⟩), rfl⟩ ?_
  clear hS
  rintro f w _ ⟨i, h2, h3, h5, h6, hS, hi, rfl⟩
  refine seq <| seq <| region <| sv (yMove h6) <| sv (yLdB h2 Tryz.isAgg121 (hS.at _) rfl) <| sv (yLen rfl Tryz.underlying121) <| sv (yLss rfl rfl) <| nil <| cwQ ?_
  refine cond rfl (fun c14 => ?_) (fun c14 => ?_)
  ·
   simp only [BS, ne_eq] at c14
   have hbd := fwL_sbd hr.1 hlb i
   refine skip <| cwQ <| seq <| block <| region <| sv (yMove h5) <| sv (yMove h6) <| sv (yMove h6) <| sv (Y.to (ySub rfl rfl ⟨by omega, by omega⟩) (congrArg (Value.int .i64) (show (i : Int) - 1 = ((i - 1 : Nat) : Int) by omega))) ?_
   refine scallf rfl Tryz.call141 (.cons rfl (.cons rfl .nil)) (c_tight1 (i := i) (k := (i - 1)) hS (fwL_len ..) (by omega) (by omega) (by omega) (hbd _ (by rw [fwL_len]; omega)) hr) ?_
   rintro _ w ⟨rfl, hM⟩; clear hS; have hS := hM; clear hM
   refine nil <| cwQ <| region <| sv (yMove h6) <| sv (yAdd rfl rfl ⟨by omega, by omega⟩) <| sv (yAsg rfl) <| nil ?_
   exact ⟨_, _, rfl, ⟨i + 1, h2, h3, h5, rfl, (by rw [fwL_succ hi.1 (by omega)]; exact hS), (⟨by omega, .inl (by omega)⟩), rfl⟩, by omega⟩
  ·
   simp only [BS, ne_eq] at c14
   have hfe : fwL r l i = bwL r l 0 := fwL_end (by omega) hi.1
   rw [hfe] at hS
   refine exit <| cwQ <| seq <| seq <| region <| sv (yLdB h2 Tryz.isAgg121 (hS.at _) rfl) <| sv (yLen rfl Tryz.underlying121) <| sv (ySub rfl rfl ⟨by omega, by omega⟩) <| sv (yAsg rfl) ?_
   refine nil <| cwQ <| block <| loop (fun f w zz => ∃ (m : Nat), f 2 = .pointer (some ⟨b2, 0, none⟩) ∧ f 3 = .pointer (some ⟨b3, 0, none⟩) ∧ f 5 = .func (.func 141) #[] #[.pointer (some ⟨b2, 0, none⟩), .pointer (some ⟨b3, 0, none⟩)] ∧ f 7 = .int .i64 ((l.length : Int) - 2 - (m : Int)) ∧ StX [] w0 w ((rowI (.slice (some ⟨g, 0, none⟩) l.length cap) 74 2 l.length ((bwL r l m).flatMap spanC) :: blk b2 [.slice (some ⟨g, 0, none⟩) l.length cap] 121 :: blk b3 [.int .i64 r] 3 :: L9)) ∧ (m + 1 ≤ l.length ∨ m = 0) ∧ zz = l.length - m) _ ⟨_, rfl, 0, h2, h3, h5, (rfl.trans (congrArg (Value.int .i64) (by omega))), hS, (.inr rfl), rfl⟩ ?_
   clear hS
   rintro f w _ ⟨m, h2, h3, h5, h7, hS, hm, rfl⟩
   refine seq <| seq <| region <| sv (yMove h7) <| sv (yGeq rfl rfl) <| nil <| cwQ ?_
   refine cond rfl (fun c26 => ?_) (fun c26 => ?_)
   ·
    simp only [BS, ne_eq] at c26
    have hbd := bwL_sbd hr.1 hlb m
    refine skip <| cwQ <| seq <| block <| region <| sv (yMove h5) <| sv (Y.to (yMove h7) (congrArg (Value.int .i64) (show (l.length : Int) - 2 - (m : Int) = ((l.length - 1 - (m + 1) : Nat) : Int) by omega))) <| sv (yMove h7) <| sv (Y.to (yAdd rfl rfl ⟨by omega, by omega⟩) (congrArg (Value.int .i64) (show (l.length : Int) - 2 - (m : Int) + 1 = ((l.length - 1 - m : Nat) : Int) by omega))) ?_
    refine scallf rfl Tryz.call141 (.cons rfl (.cons rfl .nil)) (c_tight1 (i := (l.length - 1 - (m + 1))) (k := (l.length - 1 - m)) hS (bwL_len ..) (by omega) (by omega) (by omega) (hbd _ (by rw [bwL_len]; omega)) hr) ?_
    rintro _ w ⟨rfl, hM⟩; clear hS; have hS := hM; clear hM
    refine nil <| cwQ <| region <| sv (yMove h7) <| sv (ySub rfl rfl ⟨by omega, by omega⟩) <| sv (yAsg rfl) <| nil ?_
    exact ⟨_, _, rfl, ⟨m + 1, h2, h3, h5, (rfl.trans (congrArg (Value.int .i64) (by omega))), (by rw [bwL_succ (by omega)]; exact hS), (.inl (by omega)), rfl⟩, by omega⟩
   ·
    simp only [BS, ne_eq] at c26
    have hbe : bwL r l m = tightS r l := bwL_end (by omega)
    rw [hbe] at hS
    refine exit <| cwQ <| seq <| region <| sv (yLdB h2 Tryz.isAgg121 (hS.at _) rfl) ?_
    refine scall Tryz.call92 (.cons rfl .nil) (c_emptyS (sl_spans (by have := hS.row (.slice (some ⟨g, 0, none⟩) l.length cap); exact this) (tightS_len ..) (lbd_i64 (tight_sbd hr.1 hlb)))) ?_
    rintro _ w ⟨rfl, hE⟩; replace hS := hS.step hE; clear hE
    refine sv (yNot rfl) <| sv (yAsg rfl) <| nil <| cwQ <| wp_ret <| retQ (res1 rfl rfl) ?_
    exact ⟨by unfold someT; rw [c9]; rfl, _, fun _ => rfl, hS.sub (.cons_cons _ (.cons _ (.cons _ lrQ)))⟩
end Go.Proofs.YtgidbailiababaaGreatDoor

