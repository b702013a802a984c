/- Merged texts, part 4. -/
import Derived.Test.YtchbdfcbogjhcaaGreatDoorQ3
import Derived.ChangeKeysEq
set_option linter.all false
set_option maxHeartbeats 8000000
namespace Go.Proofs.YtchbdfcbogjhcaaGreatDoor
open Go Bx Go.Proofs.Tryz
theorem c_wrongS {t : Sgt} {now : Int} {ov : Value} {bk : Nat} {T : TypeId} {fo : Fct} {am : Option Addr} {cm : Nat} {tick : Int} {w0 : World} (hk : RKn w0 bk T t now ov) (hok : SgOk t) (hf : FctOk t.ctrs.length fo) (htk : Bd tick 0 200000) : CV Tryz.prog 120 #[ptQ bk, .agg [.int .i64 fo.centre, .int .i64 fo.issued, .int .i64 fo.frm, .slice am fo.members.length cm].toArray, .int .i64 tick] w0 (.int .i64 (wrongS t fo tick)) := by
 obtain ⟨cv, ag, cg, ak, ck, ae, ce, aw, cw, ax, cx, hkb, hT, hG, hC, hF, hW, hX⟩ := id hk
 obtain ⟨g1, g2, g3, g4⟩ := wrong_bd hok hf htk
 have hcen := hf.centre
 have hiss := hf.issued
 have hcb := (hok.ctrs (i := fo.centre.toNat) (by omega)).base
 obtain ⟨bq, oq, cq, haq, hlq, hcq, hRq, -⟩ := sl_at hC (ctr_get (show fo.centre.toNat < t.ctrs.length by omega))
 obtain ⟨rfl, hnm, -⟩ := hRq
 refine enQ func120 rfl ntmps120 rfl fun hS => ?_
 refine seq <| region ?_
 refine sbox hS rfl rfl fun b4 w hS => ?_
 refine vA <| nil <| cwQ <| seq <| region_mix (fun w => StX [] w0 w (blk b4 [.int .i64 fo.centre, .int .i64 fo.issued, .int .i64 fo.frm, .slice am fo.members.length cm] 121 :: [])) 11 mixed hS ?_
 clear hS; intro w hS
 refine fsQ 0 rfl (fun w hS => yMove rfl) <| fsQ 1 rfl (fun w hS => yNil rfl) <| fsQ 2 rfl (fun w hS => fa115_0 rfl) <| fsQ 3 rfl (fun w hS => fa29_5 rfl) <| fsQ 4 rfl (fun w hS => yLdB rfl isAgg26 (hS.ext.get hkb) rfl) <| fsQ 5 rfl (fun w hS => fa121_0 rfl) <| fsQ 6 rfl (fun w hS => yLdB rfl isAgg3 (hS.at _) rfl) <| fsQ 7 rfl (fun w hS => yIxQ rfl haq (rfl.trans (congrArg (Value.int .i64) (show fo.centre = ((fo.centre.toNat : Nat) : Int) by omega))) runUnderlying26 sizeOf118) <| fsQ 8 rfl (fun w hS => yLdA rfl isAgg118 sizeOf118 (hcq.ext hS.ext) rfl) <| awQ <| a1Q 9 rfl ?_
 refine salloc hS zeroValue118 rfl fun b7 w hS => ?_
 refine nil <| kpQ <| awQ <| awQ <| a1Q 10 rfl ?_
 refine sS hS rfl sizeOf118 fun w hS => ?_
 refine nil <| kpQ <| awQ <| a_end (by kernel_rfl) <| cwQ <| seq <| region <| vA <| nil <| cwQ ?_
 refine seqJ (n := 36) (fun f w => f 7 = ptQ b7 ∧ f 8 = .int .i64 (hourS fo tick) ∧ StX [] w0 w [blk b7 (ctrC (ctr t.ctrs fo.centre.toNat)) 118, blk b4 [.int .i64 fo.centre, .int .i64 fo.issued, .int .i64 fo.frm, .slice am fo.members.length cm] 121] ∧ True) ?_ ?_
 ·
  refine seq <| region <| vM <| sv (fa121_1 rfl) <| vL rfl isAgg3 hS rfl <| sv (yGtr rfl rfl) <| nil <| cwQ ?_
  refine cond rfl ?_ ?_ <;> intro c21 <;> simp only [BS, ne_eq] at c21
  ·
   refine region <| vM <| sv (fa121_1 rfl) <| vL rfl isAgg3 hS rfl <| sv (ySubQ rfl rfl) <| sv (yAddQ rfl rfl) <| sv (ySubQ rfl rfl) <| sv (yQuoP rfl rfl ⟨by omega, by omega⟩ (by omega)) <| vA <| nil ?_
   exact ⟨_, rfl, rfl, (rfl.trans (congrArg (Value.int .i64) (by unfold hourS; rw [if_pos (show fo.issued < tick from c21)]; congr 1; omega))), hS, trivial⟩
  refine skip ?_
  exact ⟨_, rfl, rfl, (rfl.trans (congrArg (Value.int .i64) (by unfold hourS; rw [if_neg (show ¬ fo.issued < tick from c21)]))), hS, trivial⟩
 clear hS; rintro f w ⟨h7, h8, hS, -⟩
 refine seq <| region <| sv (fa118_2 h7) <| vL rfl isAgg3 hS rfl <| sv (fa118_3 h7) <| vL rfl isAgg3 hS rfl <| sv (yMove h8) <| sv (yMul rfl rfl ⟨by omega, by omega⟩) <| sv (yAddQ rfl rfl) <| vA <| nil <| cwQ <| wp_ret ?_
 exact rvQ hS
theorem c_tubeS {m : Nat} {t : Sgt} {now : Int} {ov : Value} {bk : Nat} {T : TypeId} {fo : Fct} {am : Option Addr} {cm : Nat} {w0 : World} (hkn : RKn w0 bk T t now ov) (hok : SgOk t) (hg : Glb w0) (hf : FctOk t.ctrs.length fo) (hm : m < fo.members.length) (hM : Sl w0 1 RRow (.slice am fo.members.length cm) fo.members) : CE Tryz.prog 81 #[ptQ bk, .agg [.int .i64 fo.centre, .int .i64 fo.issued, .int .i64 fo.frm, .slice am fo.members.length cm].toArray, .int .i64 (m : Int)] w0 (fun u w' => St w0 w' [rowI (u) 69 2 t.ticks.toNat ((tubeS t fo (mem fo m)).flatMap spanC)]) := by
 obtain ⟨cv, ag, cg, ak, ck, ae, ce, aw, cw, ax, cx, hkb, hT, hG, hC, hF, hW, hX⟩ := id hkn
 have htk := hok.tk
 have hlev := hok.levs.2
 have hff := hf.frm
 have hml := hf.len _ (mem_in hm)
 obtain ⟨bm, om, cm2, ham, hlm, hcm, hRm, -⟩ := sl_at hM (show fo.members[m]? = some (mem fo m) by simp [mem, hm])
 obtain ⟨mv0, rfl, hms⟩ := hRm
 obtain ⟨a0, c0, rfl, h0cap, h0mx, -⟩ := id hms
 refine enQ func81 rfl ntmps81 rfl fun hS => ?_
 refine seq <| region ?_
 refine sbox hS rfl rfl fun b4 w hS => ?_
 refine vA <| nil <| cwQ <| seq <| region_mix (fun w => StX [] w0 w (blk b4 [.int .i64 fo.centre, .int .i64 fo.issued, .int .i64 fo.frm, .slice am fo.members.length cm] 121 :: [])) 9 mixed hS ?_
 clear hS; intro w hS
 refine fsQ 0 rfl (fun w hS => yLdA rfl isAgg69 sizeOf69 (hg.ext hS.ext) rfl) <| fsQ 2 rfl (fun w hS => yMove rfl) <| fsQ 3 rfl (fun w hS => yNil rfl) <| fsQ 4 rfl (fun w hS => fa115_0 rfl) <| fsQ 5 rfl (fun w hS => fa29_4 rfl) <| fsQ 6 rfl (fun w hS => Y.to (yLdB rfl isAgg3 (hS.ext.get hkb) rfl) (congrArg (Value.int .i64) (show t.ticks = ((t.ticks.toNat : Nat) : Int) by omega))) <| awQ <| a1Q 1 rfl ?_
 refine sbslice hS underlying113 sizeOf69 rfl zeroValue69 rfl (.cons rfl rfl .nil) rfl fun b13 w hS => ?_
 refine nil <| kpQ <| awQ <| awQ <| a1Q 7 rfl ?_
 refine scall call78 e2 (c_RepeatS (k := t.ticks.toNat) (s := ⟨-20000, 20000⟩) (by omega) (hS.at b13)) ?_
 rintro tv w hM2; replace hS := hS.call1 hM2; clear hM2
 obtain ⟨g7, cap7, rfl, -⟩ := row_some (hS.row tv) (by omega)
 refine nil <| kpQ <| awQ <| fsQ 8 rfl (fun w hS => yAsg rfl) <| a_end (by kernel_rfl) <| cwQ <| seq <| seq <| region <| sv (fa121_3 rfl) <| vL rfl isAgg119 hS rfl <| vM <| sv (yIxQ rfl ham rfl runUnderlying119 sizeOf30) ?_
 refine sv (yLd rfl isAgg30 (hcm.ext hS.ext).one) <| sv (yLen rfl underlying30) <| vM <| nil <| cwQ <| block ?_
 refine loop (fun f w zz => ∃ (k : Nat), f 0 = ptQ bk ∧ f 4 = ptQ b4 ∧ f 7 = .slice (some ⟨g7, 0, none⟩) t.ticks.toNat cap7 ∧ f 24 = .slice a0 (mem fo m).length c0 ∧ f 25 = .int .i64 ((mem fo m).length : Int) ∧ f 26 = .int .i64 (k : Int) ∧ StX [] w0 w [rowI (.slice (some ⟨g7, 0, none⟩) t.ticks.toNat cap7) 69 2 t.ticks.toNat ((tubeS t fo ((mem fo m).take k)).flatMap spanC), blk b4 [.int .i64 fo.centre, .int .i64 fo.issued, .int .i64 fo.frm, .slice am fo.members.length cm] 121] ∧ (k ≤ (mem fo m).length) ∧ zz = (mem fo m).length - k) _ ⟨_, rfl, 0, rfl, rfl, rfl, rfl, rfl, rfl, (by rw [List.take_zero, tube_0]; exact hS.sub (.cons_cons _ (.cons _ lrQ))), (Nat.zero_le _), rfl⟩ ?_
 clear hS
 rintro f w _ ⟨k, h0, h4, h7, h24, h25, h26, hS, hk, rfl⟩
 refine seq <| region <| sv (yLss h26 h25) <| nil <| cwQ <| seq ?_
 refine cond rfl ?_ ?_ <;> intro c27 <;> simp only [BS, ne_eq] at c27
 ·
  have hkl : k < (mem fo m).length := by omega
  obtain ⟨bx, ox, cx2, hax, hlx, hcx, hRx, -⟩ := sl_at hms (show (mem fo m)[k]? = some ((mem fo m).getD k 0) by simp [hkl])
  obtain ⟨rfl, -⟩ := hRx
  have hvb := mem_val hf hm hkl
  refine skip <| cwQ <| seq <| block <| seq <| region <| sv (yMove h26) <| sv (yIxQ h24 hax h26 runUnderlying30 sizeOf3) <| sv (yLd rfl isAgg3 (hcx.ext hS.ext).one) <| vA <| vA <| nil <| cwQ ?_
  refine seq <| region_draw mixed (by kernel_rfl) hS <| qv (fun w hS => fa121_2 h4) <| qv (fun w hS => yLdB rfl isAgg3 (hS.at _) rfl) <| qv (fun w hS => yMove rfl) <| qv (fun w hS => yAddQ rfl rfl) <| qv (fun w hS => yMove h0) <| qv (fun w hS => yNil rfl) <| qv (fun w hS => fa115_0 rfl) <| qv (fun w hS => fa29_3 rfl) <| qv (fun w hS => yLdB rfl isAgg3 (hS.ext.get hkb) rfl) <| qv (fun w hS => ySubQ rfl rfl) <| qv (fun w hS => yAsg rfl) ?_
  clear hS; refine qnil (fun w hS => ?_)
  refine cwQ <| seq <| seq <| region <| vM <| sv (yMove h0) <| sv (yNil rfl) <| sv (fa115_0 rfl) <| sv (fa29_4 rfl) <| sv (yLdB rfl isAgg3 (hS.ext.get hkb) rfl) <| sv (ySubQ rfl rfl) ?_
  refine scV hS call32 e3 c_outS fun w hS => ?_
  refine nil <| cwQ ?_
  refine cond rfl (fun c48 => ?_) (fun c48 => ?_)
  ·
   have hout : ¬ (0 ≤ fo.frm + k - t.frm ∧ fo.frm + k - t.frm < t.ticks) := fun hh => by rw [outB_false.2 ⟨hh.1, by omega⟩] at c48; cases c48
   refine exit <| cwQ <| region <| sv (yAddQ h26 rfl) <| vM <| nil ?_
   exact ⟨_, _, rfl, ⟨k + 1, h0, h4, h7, h24, h25, rfl, (by rw [tube_out hkl hout]; exact hS), (by omega), rfl⟩, by omega⟩
  have hin := outB_false.1 c48
  obtain ⟨i0, hi0⟩ : ∃ i0 : Nat, fo.frm + k - t.frm = i0 := ⟨_, (Int.toNat_of_nonneg hin.1).symm⟩
  have hib : i0 < t.ticks.toNat := by omega
  obtain ⟨bW, oW, cW, haW, hlW, hcW, hRW, -⟩ := sl_at hW (tidesS_get hib)
  obtain ⟨rfl, -⟩ := hRW
  have htd := tide_sbd hok i0
  unfold SBd at htd
  have hwb := wrong_bd hok hf (tick_at hok hib)
  refine skip <| cwQ <| seq <| region_draw mixed (by kernel_rfl) hS <| qv (fun w hS => yMove h0) <| qv (fun w hS => yLdBA h4 isAgg121 sizeOf121 (hS.at _) rfl rfl) <| qv (fun w hS => yMove h0) <| qv (fun w hS => yNil rfl) <| qv (fun w hS => fa115_0 rfl) <| qv (fun w hS => fa29_3 rfl) <| qv (fun w hS => yLdB rfl isAgg3 (hS.ext.get hkb) rfl) <| qv (fun w hS => yMove rfl) <| qv (fun w hS => Y.to (yAddQ rfl rfl) (congrArg (Value.int .i64) (show t.frm + (fo.frm + k - t.frm) = t.frm + (i0 : Int) by omega))) ?_
  refine qcall call120 e3 (fun w hS => c_wrongS (hkn.ext hS.ext) hok hf (tick_at hok hib)) <| qv (fun w hS => yAsg rfl) ?_
  clear hS; refine qnil (fun w hS => ?_)
  refine cwQ <| region_mix (fun w => StX [] w0 w (rowI (.slice (some ⟨g7, 0, none⟩) t.ticks.toNat cap7) 69 2 t.ticks.toNat ((tubeS t fo ((mem fo m).take k)).flatMap spanC) :: blk b4 [.int .i64 fo.centre, .int .i64 fo.issued, .int .i64 fo.frm, .slice am fo.members.length cm] 121 :: [])) 28 mixed hS ?_
  clear hS; intro w hS
  refine fsQ 0 rfl (fun w hS => yMove h7) <| fsQ 1 rfl (fun w hS => Y.to (yMove rfl) (congrArg (Value.int .i64) hi0)) <| fsQ 2 rfl (fun w hS => yMove h0) <| fsQ 3 rfl (fun w hS => yNil rfl) <| fsQ 4 rfl (fun w hS => fa115_2 rfl) <| fsQ 5 rfl (fun w hS => yLdB rfl isAgg113 (hS.ext.get hkb) rfl) <| fsQ 6 rfl (fun w hS => Y.to (yMove rfl) (congrArg (Value.int .i64) hi0)) <| fsQ 7 rfl (fun w hS => yIxQ rfl haW rfl runUnderlying113 sizeOf69) <| fsQ 8 rfl (fun w hS => fa69_0 rfl) <| fsQ 9 rfl (fun w hS => yLd rfl isAgg3 ((hcW.ext hS.ext).at (j := 0) rfl)) <| fsQ 10 rfl (fun w hS => yMove rfl) <| fsQ 11 rfl (fun w hS => yAddQ rfl rfl) <| fsQ 12 rfl (fun w hS => yMove rfl) ?_
  refine fsQ 13 rfl (fun w hS => ySubQ rfl rfl) <| fsQ 14 rfl (fun w hS => yMove h0) <| fsQ 15 rfl (fun w hS => yNil rfl) <| fsQ 16 rfl (fun w hS => fa115_2 rfl) <| fsQ 17 rfl (fun w hS => yLdB rfl isAgg113 (hS.ext.get hkb) rfl) <| fsQ 18 rfl (fun w hS => Y.to (yMove rfl) (congrArg (Value.int .i64) hi0)) <| fsQ 19 rfl (fun w hS => yIxQ rfl haW rfl runUnderlying113 sizeOf69) <| fsQ 20 rfl (fun w hS => fa69_1 rfl) <| fsQ 21 rfl (fun w hS => yLd rfl isAgg3 ((hcW.ext hS.ext).at (j := 1) rfl)) <| fsQ 22 rfl (fun w hS => yMove rfl) <| fsQ 23 rfl (fun w hS => yAddQ rfl rfl) <| fsQ 24 rfl (fun w hS => yMove rfl) <| fsQ 25 rfl (fun w hS => yAddQ rfl rfl) ?_
  refine fsQ 26 rfl (fun w hS => yBuild zeroValue69 rfl pl69 (.cons rfl rfl (.cons rfl rfl .nil)) rfl) <| fsQ 27 rfl (fun w hS => yIx0 (m := i0) rfl rfl runUnderlying113 sizeOf69 (by omega)) <| awQ <| a1Q 28 rfl ?_
  refine srst (m := t.ticks.toNat) (cap := cap7) (sz := 2) (vs := spanC ⟨(tideS t i0).lo + (mem fo m).getD k 0 - wrongS t fo (t.frm + i0), (tideS t i0).hi + (mem fo m).getD k 0 + wrongS t fo (t.frm + i0)⟩) hS rfl rfl sizeOf69 rfl rfl (by omega) rfl ?_; clear hS; intro w hS
  rw [splice_enc spanC_len _ _ _ (by rw [tubeS_len]; omega)] at hS
  refine nil ?_
  refine ⟨fun h => absurd h (by decide), ?_⟩
  refine awQ <| a_end (by kernel_rfl) <| cwQ <| region <| sv (yAddQ h26 rfl) <| vM <| nil ?_
  exact ⟨_, _, rfl, ⟨k + 1, h0, h4, h7, h24, h25, rfl, (by rw [tube_in hkl (by omega) hi0]; exact hS), (by omega), rfl⟩, by omega⟩
 obtain rfl : k = (mem fo m).length := by omega
 rw [List.take_length] at hS
 refine exit <| cwQ <| seq <| region <| sv (yMove h7) <| vA <| nil <| cwQ <| wp_ret <| retQ (res1 rfl rfl) ?_
 exact hS.sub (.cons_cons _ (List.nil_sublist _))
theorem c_needS {t : Sgt} {now : Int} {ov : Value} {bk : Nat} {T : TypeId} {w0 : World} (hk : RKn w0 bk T t now ov) (hok : SgOk t) : CV Tryz.prog 56 #[ptQ bk] w0 (.int .i64 (needS t now)) := by
 obtain ⟨cv, ag, cg, ak, ck, ae, ce, aw, cw, ax, cx, hkb, hT, hG, hC, hF, hW, hX⟩ := id hk
 have hcl := curS_len t now
 have hnc := hok.nc
 have hqm := hok.nums4.2.2.2
 refine enQ func56 rfl ntmps56 rfl fun hS => ?_
 refine seq <| region <| vA <| nil <| cwQ <| seq <| region <| vA <| nil <| cwQ <| seq <| seq <| region ?_
 refine vM <| sv (yNil rfl) <| sv (fa115_3 rfl) <| sv (yLdB rfl isAgg30 (hS.ext.get hkb) rfl) <| sv (yLen rfl underlying30) <| vM <| nil <| cwQ <| block <| loop (fun f w zz => ∃ (k : Nat), f 0 = ptQ bk ∧ f 3 = .int .i64 ((((curS t now).take k).countP (fun i => decide (0 ≤ i)) : Nat) : Int) ∧ f 9 = .slice ax t.ctrs.length cx ∧ f 10 = .int .i64 (t.ctrs.length : Int) ∧ f 11 = .int .i64 (k : Int) ∧ StX [] w0 w [] ∧ (k ≤ t.ctrs.length) ∧ zz = t.ctrs.length - k) _ ⟨_, rfl, 0, rfl, rfl, rfl, rfl, rfl, hS, (Nat.zero_le _), rfl⟩ ?_
 clear hS
 rintro f w _ ⟨k, h0, h3, h9, h10, h11, hS, hk2, rfl⟩
 refine seq <| region <| sv (yLss h11 h10) <| nil <| cwQ <| seq ?_
 refine cond rfl ?_ ?_ <;> intro c12 <;> simp only [BS, ne_eq] at c12
 ·
  have hx := curS_get t now (show k < t.ctrs.length by omega)
  obtain ⟨bq, oq, cq, haq, hlq, hcq, hRq, -⟩ := sl_at hX hx
  obtain ⟨rfl, -⟩ := hRq
  have hcnt : ((curS t now).take k).countP (fun i => decide (0 ≤ i)) ≤ k := by have := List.countP_le_length (p := fun i => decide (0 ≤ i)) (l := (curS t now).take k); rw [List.length_take] at this; omega
  refine skip <| cwQ <| seq <| block <| seq <| region <| sv (yIxQ h9 haq h11 runUnderlying30 sizeOf3) <| sv (yLd rfl isAgg3 (hcq.ext hS.ext).one) <| vA <| nil <| cwQ <| seq <| region ?_
  refine vM <| sv (yGeq rfl rfl) <| nil <| cwQ ?_
  refine cond rfl ?_ ?_ <;> intro c16 <;> simp only [BS, ne_eq] at c16
  ·
   refine region <| sv (yMove h3) <| sv (yAddQ rfl rfl) <| vA <| nil <| cwQ <| region <| sv (yAddQ h11 rfl) <| vM <| nil ?_
   exact ⟨_, _, rfl, ⟨k + 1, h0, (rfl.trans (congrArg (Value.int .i64) (by rw [take_snoc hx, List.countP_append, List.countP_singleton, decide_eq_true (show 0 ≤ curOf t now k by omega), if_pos rfl]; omega))), h9, h10, rfl, hS, (by omega), rfl⟩, by omega⟩
  refine skip <| cwQ <| region <| sv (yAddQ h11 rfl) <| vM <| nil ?_
  exact ⟨_, _, rfl, ⟨k + 1, h0, (h3.trans (congrArg (Value.int .i64) (by rw [take_snoc hx, List.countP_append, List.countP_singleton, decide_eq_false (show ¬ 0 ≤ curOf t now k by omega), if_neg (by decide)]; omega))), h9, h10, rfl, hS, (by omega), rfl⟩, by omega⟩
 obtain rfl : k = t.ctrs.length := by omega
 rw [← hcl, List.take_length] at h3
 refine exit <| cwQ <| seq <| region <| sv (yMove h3) <| sv (yMove h0) <| sv (yNil rfl) <| sv (fa115_0 rfl) <| sv (fa29_10 rfl) <| sv (yLdB rfl isAgg3 (hS.ext.get hkb) rfl) <| sv (yMin rfl rfl) <| vA <| nil ?_
 refine cwQ <| wp_ret ?_
 exact rvQ hS
theorem c_baseS {t : Sgt} {now : Int} {cv ov : Value} {ag ak ae aw ax : Option Addr} {cg ck ce cw cx bk mo : Nat} {os : List Span} {w0 w : World} {L9 : List Bx.Item} (h : RSgt w0 (scQ t cv ag ak ae cg ck ce) t) (hok : SgOk t) (hnow : Bd now 0 200000) (hg : Glb w0) (hown : (os = [] ∧ mo = 0 ∧ ov = .slice none 0 0) ∨ (os = baseS t now ∧ mo = t.ticks.toNat)) (hS : StX [] w0 w (blk bk (knQ t now cv ag ak ae cg ck ce aw cw ax cx ov) 115 :: rowI (ov) 69 2 mo ((os).flatMap spanC) :: rowI (.slice aw t.ticks.toNat cw) 69 2 t.ticks.toNat ((tidesS t).flatMap spanC) :: rowI (.slice ax t.ctrs.length cx) 3 1 t.ctrs.length ((curS t now).flatMap Bx.encI) :: L9)) : CE Tryz.prog 53 #[ptQ bk] w (fun u w' => ∃ ov', StX [] w0 w' (rowI (u) 69 2 t.ticks.toNat ((baseS t now).flatMap spanC) :: blk bk (knQ t now cv ag ak ae cg ck ce aw cw ax cx ov') 115 :: rowI (ov') 69 2 t.ticks.toNat ((baseS t now).flatMap spanC) :: rowI (.slice aw t.ticks.toNat cw) 69 2 t.ticks.toNat ((tidesS t).flatMap spanC) :: rowI (.slice ax t.ctrs.length cx) 3 1 t.ctrs.length ((curS t now).flatMap Bx.encI) :: L9)) := by
 obtain ⟨hT, hG, hw64, hf64, hk64, hC, hF, hl64, hm64, hr64, hq64⟩ := RSgt.parts h
 have htk := hok.tk
 have hlev := hok.levs.2
 have hn4 := hok.nums4
 obtain ⟨ao, co, rfl⟩ := row_shape (hS.row ov)
 obtain ⟨gw, rfl, -⟩ := row_get (hS.row (.slice aw t.ticks.toNat cw)) (by omega)
 refine enter func53 rfl ntmps53 rfl ?_
 skip
 refine seq <| region <| vA <| nil <| cwQ <| seq <| seq <| region <| vM <| sv (yNil rfl) <| sv (fa115_4 rfl) <| vL rfl isAgg113 hS rfl <| sv (yEqNil rfl rfl underlying113) ?_
 refine nil <| cwQ ?_
 refine cond rfl (fun c14 => ?_) (fun c14 => ?_)
 ·
  obtain ⟨rfl, rfl, hnv⟩ : os = [] ∧ mo = 0 ∧ Value.slice ao mo co = .slice none 0 0 := by
   rcases hown with hh | ⟨rfl, rfl⟩
   ·
    exact hh
   obtain ⟨g2, c2, e2, -⟩ := row_some (hS.row (.slice ao t.ticks.toNat co)) (by omega)
   cases e2
   cases c14
  cases hnv
  replace hS := hS.sub (.cons_cons _ (.cons _ lrQ))
  refine seq <| region_mix (fun w => StX [] w0 w (blk bk (knQ t now cv ag ak ae cg ck ce (some ⟨gw, 0, none⟩) cw ax cx (.slice none 0 0)) 115 :: rowI (.slice (some ⟨gw, 0, none⟩) t.ticks.toNat cw) 69 2 t.ticks.toNat ((tidesS t).flatMap spanC) :: rowI (.slice ax t.ctrs.length cx) 3 1 t.ctrs.length ((curS t now).flatMap Bx.encI) :: L9)) 11 mixed hS ?_
  clear hS; intro w hS
  refine fsQ 0 rfl (fun w hS => yMove rfl) <| fsQ 1 rfl (fun w hS => yLdA rfl isAgg69 sizeOf69 (hg.ext hS.ext) rfl) <| fsQ 3 rfl (fun w hS => yMove rfl) <| fsQ 4 rfl (fun w hS => yNil rfl) <| fsQ 5 rfl (fun w hS => fa115_0 rfl) <| fsQ 6 rfl (fun w hS => fa29_4 rfl) <| fsQ 7 rfl (fun w hS => Y.to (yLdB rfl isAgg3 (hS.at bk) rfl) (congrArg (Value.int .i64) (show t.ticks = ((t.ticks.toNat : Nat) : Int) by omega))) <| awQ <| a1Q 2 rfl ?_
  refine sbslice hS underlying113 sizeOf69 rfl zeroValue69 rfl (.cons rfl rfl .nil) rfl fun b17 w hS => ?_
  refine nil <| kpQ <| awQ <| awQ <| a1Q 8 rfl ?_
  refine scall call78 e2 (c_RepeatS (k := t.ticks.toNat) (s := ⟨-20000, 20000⟩) (by omega) (hS.at b17)) ?_
  rintro rv w hM2; replace hS := hS.call1 hM2; clear hM2
  obtain ⟨go, co, rfl, hoc, hom, -⟩ := row_some (hS.row rv) (by omega)
  refine nil <| kpQ <| awQ <| awQ <| a1Q 9 rfl <| sv (yNil rfl) <| nil <| kpQ <| awQ <| awQ <| a1Q 10 rfl <| sv (fa115_4 rfl) <| nil ?_
  refine kpQ <| awQ <| awQ <| a1Q 11 rfl ?_
  refine sS hS rfl sizeOf113 fun w hS => ?_
  refine nil ?_
  refine ⟨fun h => absurd h (by decide), ?_⟩
  refine awQ <| a_end (by kernel_rfl) <| cwQ <| seq <| region ?_
  replace hS : StX [] w0 w (rowI (.slice (some ⟨go, 0, none⟩) t.ticks.toNat co) 69 2 t.ticks.toNat ((List.replicate t.ticks.toNat ⟨-20000, 20000⟩).flatMap spanC) :: blk bk (knQ t now cv ag ak ae cg ck ce (some ⟨gw, 0, none⟩) cw ax cx (.slice (some ⟨go, 0, none⟩) t.ticks.toNat co)) 115 :: rowI (.slice (some ⟨gw, 0, none⟩) t.ticks.toNat cw) 69 2 t.ticks.toNat ((tidesS t).flatMap spanC) :: rowI (.slice ax t.ctrs.length cx) 3 1 t.ctrs.length ((curS t now).flatMap Bx.encI) :: L9) := hS.sub (.cons_cons _ (.cons _ lrQ))
  refine vM <| sv (yNil rfl) <| sv (fa115_4 rfl) <| vL rfl isAgg113 hS rfl <| sv (yFnB e1) <| vA <| nil <| cwQ <| seq <| region <| vM <| sv (yNil rfl) <| sv (fa115_0 rfl) ?_
  refine sv (fa29_4 rfl) <| sv (Y.to (yLdB rfl isAgg3 (hS.at bk) rfl) (congrArg (Value.int .i64) (show t.ticks = ((t.ticks.toNat : Nat) : Int) by omega))) ?_
  refine smake (bytes := 16) (zs := [.int .i64 0, .int .i64 0]) (m := t.ticks.toNat) hS rfl rfl underlying113 ti69 rfl rfl rfl rfl rfl (by omega) (by omega) ?_; clear hS; intro b36 w hS
  refine vA <| nil <| cwQ <| seq <| seq <| region ?_
  rw [rep_flat, ← surgeK_0] at hS
  replace hS := hS.toRow 2 t.ticks.toNat (by rw [flat_len spanC_len, surgeK_len]) (by omega)
  refine vM <| sv (yNil rfl) <| sv (fa115_2 rfl) <| vL rfl isAgg113 hS rfl <| sv (yLen rfl underlying113) <| vM <| nil <| cwQ <| block <| loop (fun f w zz => ∃ (k : Nat), f 0 = ptQ bk ∧ f 3 = .func (.func 79) #[.slice (some ⟨go, 0, none⟩) t.ticks.toNat co] #[] ∧ f 4 = .slice (some ⟨b36, 0, none⟩) t.ticks.toNat t.ticks.toNat ∧ f 40 = .slice (some ⟨gw, 0, none⟩) t.ticks.toNat cw ∧ f 41 = .int .i64 (t.ticks.toNat : Int) ∧ f 42 = .int .i64 (k : Int) ∧ StX [] w0 w ((rowI (.slice (some ⟨b36, 0, none⟩) t.ticks.toNat t.ticks.toNat) 69 2 t.ticks.toNat ((surgeK t k).flatMap spanC) :: rowI (.slice (some ⟨go, 0, none⟩) t.ticks.toNat co) 69 2 t.ticks.toNat ((List.replicate t.ticks.toNat ⟨-20000, 20000⟩).flatMap spanC) :: blk bk (knQ t now cv ag ak ae cg ck ce (some ⟨gw, 0, none⟩) cw ax cx (.slice (some ⟨go, 0, none⟩) t.ticks.toNat co)) 115 :: rowI (.slice (some ⟨gw, 0, none⟩) t.ticks.toNat cw) 69 2 t.ticks.toNat ((tidesS t).flatMap spanC) :: rowI (.slice ax t.ctrs.length cx) 3 1 t.ctrs.length ((curS t now).flatMap Bx.encI) :: L9)) ∧ (k ≤ t.ticks.toNat) ∧ zz = t.ticks.toNat - k) _ ⟨_, rfl, 0, rfl, rfl, rfl, rfl, rfl, rfl, hS, (Nat.zero_le _), rfl⟩ ?_
  clear hS
  rintro f w _ ⟨k, h0, h3, h4, h40, h41, h42, hS, hk, rfl⟩
  refine seq <| region <| sv (yLss h42 h41) <| nil <| cwQ <| seq ?_
  refine cond rfl ?_ ?_ <;> intro c43 <;> simp only [BS, ne_eq] at c43
  ·
   have hkl : k < t.ticks.toNat := by omega
   have htd := tide_sbd hok k
   unfold SBd at htd
   refine skip <| cwQ <| seq <| block <| seq <| region <| sv (yMove h42) <| sv (yIx0 (m := k) h40 h42 runUnderlying113 sizeOf69 (by omega)) <| sv (yLdA rfl isAgg69 sizeOf69 (flat_cells0 (enc := spanC) spanC_len (row_at (hS.row (.slice (some ⟨gw, 0, none⟩) t.ticks.toNat cw)) rfl (by omega)) (tidesS_get hkl)) rfl) ?_
   refine salloc hS zeroValue69 rfl fun b6 w hS => ?_
   refine vA ?_
   refine sS hS rfl sizeOf69 fun w hS => ?_
   refine nil <| cwQ <| region_mix (fun w => StX [] w0 w (blk b6 (spanC (tideS t k)) 69 :: rowI (.slice (some ⟨b36, 0, none⟩) t.ticks.toNat t.ticks.toNat) 69 2 t.ticks.toNat ((surgeK t k).flatMap spanC) :: rowI (.slice (some ⟨go, 0, none⟩) t.ticks.toNat co) 69 2 t.ticks.toNat ((List.replicate t.ticks.toNat ⟨-20000, 20000⟩).flatMap spanC) :: blk bk (knQ t now cv ag ak ae cg ck ce (some ⟨gw, 0, none⟩) cw ax cx (.slice (some ⟨go, 0, none⟩) t.ticks.toNat co)) 115 :: rowI (.slice (some ⟨gw, 0, none⟩) t.ticks.toNat cw) 69 2 t.ticks.toNat ((tidesS t).flatMap spanC) :: rowI (.slice ax t.ctrs.length cx) 3 1 t.ctrs.length ((curS t now).flatMap Bx.encI) :: L9)) 20 mixed hS ?_
   clear hS; intro w hS
   refine fsQ 0 rfl (fun w hS => yMove h4) <| fsQ 1 rfl (fun w hS => yMove rfl) <| fsQ 2 rfl (fun w hS => fa69_0 rfl) <| fsQ 3 rfl (fun w hS => yLdB rfl isAgg3 (hS.at _) rfl) <| fsQ 4 rfl (fun w hS => yMove h0) <| fsQ 5 rfl (fun w hS => yNil rfl) <| fsQ 6 rfl (fun w hS => fa115_0 rfl) <| fsQ 7 rfl (fun w hS => fa29_7 rfl) <| fsQ 8 rfl (fun w hS => yLdB rfl isAgg3 (hS.at _) rfl) <| fsQ 9 rfl (fun w hS => yAddQ rfl rfl) <| fsQ 10 rfl (fun w hS => fa69_1 rfl) <| fsQ 11 rfl (fun w hS => yLdB rfl isAgg3 (hS.at _) rfl) <| fsQ 12 rfl (fun w hS => yMove h0) ?_
   refine fsQ 13 rfl (fun w hS => yNil rfl) <| fsQ 14 rfl (fun w hS => fa115_0 rfl) <| fsQ 15 rfl (fun w hS => fa29_8 rfl) <| fsQ 16 rfl (fun w hS => yLdB rfl isAgg3 (hS.at _) rfl) <| fsQ 17 rfl (fun w hS => yAddQ rfl rfl) <| fsQ 18 rfl (fun w hS => yBuild zeroValue69 rfl pl69 (.cons rfl rfl (.cons rfl rfl .nil)) rfl) <| fsQ 19 rfl (fun w hS => yIx0 (m := k) rfl rfl runUnderlying113 sizeOf69 (by omega)) <| awQ <| a1Q 20 rfl ?_
   refine srst (m := t.ticks.toNat) (cap := t.ticks.toNat) (sz := 2) (vs := spanC ⟨(tideS t k).lo + t.least, (tideS t k).hi + t.most⟩) hS rfl rfl sizeOf69 rfl rfl (by omega) rfl ?_; clear hS; intro w hS
   rw [splice_enc spanC_len _ _ _ (by rw [surgeK_len]; omega)] at hS
   refine nil ?_
   refine ⟨fun h => absurd h (by decide), ?_⟩
   refine awQ <| a_end (by kernel_rfl) <| cwQ <| region <| sv (yAddQ h42 rfl) <| vM <| nil ?_
   exact ⟨_, _, rfl, ⟨k + 1, h0, h3, h4, h40, h41, rfl, (by rw [surgeK_succ hkl]; exact hS.sub (.cons _ lrQ)), (by omega), rfl⟩, by omega⟩
  obtain rfl : k = t.ticks.toNat := by omega
  refine exit <| cwQ <| seq <| region <| sv (yMove h3) <| sv (yMove h4) ?_
  refine scallfB rfl call79 e1 (c_meetS (o := 0) (ss := List.replicate t.ticks.toNat ⟨-20000, 20000⟩) (os := surgeK t t.ticks.toNat) (hS.perm (List.Perm.swap _ _ _)) (fun q w2 h2 => sl_spans (h2.row (.slice (some ⟨b36, 0, none⟩) t.ticks.toNat t.ticks.toNat)) (surgeK_len ..) (lbd_i64 (surgeK_sbd hok _))) (by rw [surgeK_len]; omega) (by rw [List.length_replicate]) (by omega) (by omega)) ?_
  clear hS; rintro _ w ⟨-, hS⟩
  rw [meet_base (now := now)] at hS
  replace hS := hS.sub (.cons_cons _ (.cons _ lrQ))
  refine nil <| cwQ <| seq <| region <| sv (yMove h0) <| sv (yNil rfl) <| sv (fa115_4 rfl) <| vL rfl isAgg113 hS rfl <| sv (yLen rfl underlying113) <| vM <| nil <| cwQ <| block ?_
  refine loop (fun f w zz => ∃ (k : Nat), f 0 = ptQ bk ∧ f 74 = .slice (some ⟨go, 0, none⟩) t.ticks.toNat co ∧ f 75 = .int .i64 (t.ticks.toNat : Int) ∧ f 76 = .int .i64 (k : Int) ∧ StX [] w0 w ((rowI (.slice (some ⟨go, 0, none⟩) t.ticks.toNat co) 69 2 t.ticks.toNat ((baseK t now k).flatMap spanC) :: blk bk (knQ t now cv ag ak ae cg ck ce (some ⟨gw, 0, none⟩) cw ax cx (.slice (some ⟨go, 0, none⟩) t.ticks.toNat co)) 115 :: rowI (.slice (some ⟨gw, 0, none⟩) t.ticks.toNat cw) 69 2 t.ticks.toNat ((tidesS t).flatMap spanC) :: rowI (.slice ax t.ctrs.length cx) 3 1 t.ctrs.length ((curS t now).flatMap Bx.encI) :: L9)) ∧ (k ≤ t.ticks.toNat) ∧ zz = t.ticks.toNat - k) _ ⟨_, rfl, 0, h0, rfl, rfl, rfl, hS, (Nat.zero_le _), rfl⟩ ?_
  clear hS
  rintro f w _ ⟨k, h0, h74, h75, h76, hS, hk, rfl⟩
  refine seq <| region <| sv (yLss h76 h75) <| nil <| cwQ <| seq ?_
  refine cond rfl ?_ ?_ <;> intro c77 <;> simp only [BS, ne_eq] at c77
  ·
   have hkl : k < t.ticks.toNat := by omega
   have htb := tick_at hok hkl
   refine skip <| cwQ <| seq <| block <| seq <| region <| sv (yMove h76) <| vA <| nil <| cwQ <| seq <| seq <| region ?_
   refine sv (yMove h0) <| sv (yNil rfl) <| sv (fa115_0 rfl) <| sv (fa29_1 rfl) <| vL rfl isAgg25 hS rfl <| sv (yLen rfl underlying25) <| sv (yEql rfl rfl) <| nil <| cwQ ?_
   refine cond rfl ?_ ?_ <;> intro c85 <;> simp only [BS, ne_eq] at c85
   ·
    have hg0 : t.gauges = [] := List.eq_nil_of_length_eq_zero (by omega)
    rw [baseK_none hg0] at hS
    refine exit <| cwQ <| seq <| region <| sv (yMove h0) <| sv (yNil rfl) <| sv (fa115_4 rfl) <| vL rfl isAgg113 hS rfl ?_
    refine scall call66 e1 (c_CloneS (sl_spans (hS.row _) (baseS_len ..) (lbd_i64 (baseS_lbd hok now))) (baseS_len ..) (by omega)) ?_
    rintro u w hM2; replace hS := hS.call1 hM2; clear hM2
    refine vA <| nil <| cwQ <| wp_ret <| retQ (res1 rfl rfl) ?_
    exact ⟨_, hS.perm ((List.Perm.swap _ _ _).cons _)⟩
   have hg1 : t.gauges ≠ [] := fun e => by rw [e] at c85; exact c85 rfl
   refine skip <| cwQ <| seq <| region_mix (fun w => StX [] w0 w (rowI (.slice (some ⟨go, 0, none⟩) t.ticks.toNat co) 69 2 t.ticks.toNat ((baseK t now k).flatMap spanC) :: blk bk (knQ t now cv ag ak ae cg ck ce (some ⟨gw, 0, none⟩) cw ax cx (.slice (some ⟨go, 0, none⟩) t.ticks.toNat co)) 115 :: rowI (.slice (some ⟨gw, 0, none⟩) t.ticks.toNat cw) 69 2 t.ticks.toNat ((tidesS t).flatMap spanC) :: rowI (.slice ax t.ctrs.length cx) 3 1 t.ctrs.length ((curS t now).flatMap Bx.encI) :: L9)) 27 mixed hS ?_
   clear hS; intro w hS
   refine fsQ 0 rfl (fun w hS => yMove h0) <| fsQ 1 rfl (fun w hS => yNil rfl) <| fsQ 2 rfl (fun w hS => fa115_0 rfl) <| fsQ 3 rfl (fun w hS => fa29_1 rfl) <| fsQ 4 rfl (fun w hS => yLdB rfl isAgg25 (hS.at _) rfl) <| fsQ 5 rfl (fun w hS => yMove h0) <| fsQ 6 rfl (fun w hS => yNil rfl) <| fsQ 7 rfl (fun w hS => fa115_0 rfl) <| fsQ 8 rfl (fun w hS => fa29_2 rfl) <| fsQ 9 rfl (fun w hS => yLdB rfl isAgg3 (hS.at _) rfl) <| fsQ 10 rfl (fun w hS => yMove h0) <| fsQ 11 rfl (fun w hS => yNil rfl) <| fsQ 12 rfl (fun w hS => fa115_0 rfl) ?_
   refine fsQ 13 rfl (fun w hS => fa29_3 rfl) <| fsQ 14 rfl (fun w hS => yLdB rfl isAgg3 (hS.at _) rfl) <| fsQ 15 rfl (fun w hS => yMove rfl) <| fsQ 16 rfl (fun w hS => yAddQ rfl rfl) <| fsQ 17 rfl (fun w hS => yMove h0) <| fsQ 18 rfl (fun w hS => yNil rfl) <| fsQ 19 rfl (fun w hS => fa115_1 rfl) <| fsQ 20 rfl (fun w hS => yLdB rfl isAgg3 (hS.at _) rfl) <| awQ ?_
   refine a_step (i := 21) (is := [25]) (by kernel_rfl) ⟨?_, ?_, trivial⟩
   ·
    refine ⟨_, rfl, ?_⟩
    refine scV hS call80 (.cons rfl e3) (c_Sound (hG.ext RGauge.stays hS.ext) hw64 ⟨by omega, by omega⟩ ⟨by omega, by omega⟩) fun w hS => ?_
    refine nil <| kpQ <| awQ <| fsQ 22 rfl (fun w hS => yMove rfl) <| fsQ 23 rfl (fun w hS => yExt rfl rfl) <| fsQ 24 rfl (fun w hS => yExt rfl rfl) <| awQ <| a1Q 25 rfl ?_
    refine salloc hS zeroValue69 rfl fun b8 w hS => ?_
    refine nil <| kpQ <| awQ <| awQ <| a1Q 26 rfl ?_
    refine sS hS rfl sizeOf69 fun w hS => ?_
    refine nil <| kpQ <| awQ <| awQ <| a1Q 27 rfl <| vA <| nil ?_
    refine ⟨fun h => absurd h (by decide), ?_⟩
    refine awQ <| a_end (by kernel_rfl) <| cwQ <| seq <| region <| vM <| sv (yEql rfl rfl) <| nil <| cwQ ?_
    refine cond rfl ?_ ?_ <;> intro c112 <;> simp only [BS, ne_eq] at c112
    ·
     refine region_mix (fun w => StX [] w0 w (blk b8 (spanC (soundF t.gauges t.wrong (t.frm + k) now).1) 69 :: blk bk (knQ t now cv ag ak ae cg ck ce (some ⟨gw, 0, none⟩) cw ax cx (.slice (some ⟨go, 0, none⟩) t.ticks.toNat co)) 115 :: rowI (.slice (some ⟨gw, 0, none⟩) t.ticks.toNat cw) 69 2 t.ticks.toNat ((tidesS t).flatMap spanC) :: rowI (.slice ax t.ctrs.length cx) 3 1 t.ctrs.length ((curS t now).flatMap Bx.encI) :: L9)) 9 mixed hS ?_
     clear hS; intro w hS
     refine fsQ 0 rfl (fun w hS => yMove h0) <| fsQ 1 rfl (fun w hS => yNil rfl) <| fsQ 2 rfl (fun w hS => fa115_4 rfl) <| fsQ 3 rfl (fun w hS => yLdB rfl isAgg113 (hS.at _) rfl) <| fsQ 4 rfl (fun w hS => yMove rfl) <| fsQ 5 rfl (fun w hS => yTailLt (i := k) rfl rfl underlying113 sizeOf69 (by omega) (by omega)) <| fsQ 6 rfl (fun w hS => yLdBA rfl isAgg69 sizeOf69 (hS.at _) rfl rfl) <| awQ <| a1Q 7 rfl ?_
     refine sbslice hS underlying113 sizeOf69 rfl zeroValue69 rfl (.cons rfl rfl .nil) rfl fun b120 w hS => ?_
     refine nil <| kpQ <| awQ <| awQ <| a1Q 8 rfl ?_
     refine scall call79 e2 (c_meetS (o := k) (ss := baseK t now k) (os := [(soundF t.gauges t.wrong (t.frm + k) now).1]) (hS.perm (perm_c _ _ _ _)) (fun q w2 h2 => sl_span1 (h2.at b120) ((sound_sbd c112).mono (by decide)).i64) (by show 1 ≤ _; omega) (baseK_len ..) (by omega) (by omega)) ?_
     clear hS; rintro _ w ⟨-, hS⟩
     replace hS : StX [] w0 w (rowI (.slice (some ⟨go, 0, none⟩) t.ticks.toNat co) 69 2 t.ticks.toNat ((meetK (baseK t now k) [(soundF t.gauges t.wrong (t.frm + k) now).1] k 1).flatMap spanC) :: _) := hS
     rw [meetK_one, ← baseK_yes hkl hg1 c112] at hS
     refine nil <| kpQ <| awQ <| a_end (by kernel_rfl) <| cwQ <| region <| sv (yAddQ h76 rfl) <| vM <| nil ?_
     exact ⟨_, _, rfl, ⟨k + 1, h0, h74, h75, rfl, (hS.sub (.cons_cons _ (.cons _ (.cons _ lrQ)))), (by omega), rfl⟩, by omega⟩
    refine skip <| cwQ <| region <| sv (yAddQ h76 rfl) <| vM <| nil ?_
    exact ⟨_, _, rfl, ⟨k + 1, h0, h74, h75, rfl, (by rw [baseK_no c112]; exact hS.sub (.cons _ lrQ)), (by omega), rfl⟩, by omega⟩
   refine ⟨_, rfl, ?_⟩
   refine salloc hS zeroValue69 rfl fun b8 w hS => ?_
   refine nil <| kpQ <| awQ <| awQ <| a1Q 21 rfl ?_
   refine scV hS call80 (.cons rfl e3) (c_Sound (hG.ext RGauge.stays hS.ext) hw64 ⟨by omega, by omega⟩ ⟨by omega, by omega⟩) fun w hS => ?_
   refine nil <| kpQ <| awQ <| fsQ 22 rfl (fun w hS => yMove rfl) <| fsQ 23 rfl (fun w hS => yExt rfl rfl) <| fsQ 24 rfl (fun w hS => yExt rfl rfl) <| awQ <| a1Q 26 rfl ?_
   refine sS hS rfl sizeOf69 fun w hS => ?_
   refine nil <| kpQ <| awQ <| awQ <| a1Q 27 rfl <| vA <| nil ?_
   refine ⟨fun h => absurd h (by decide), ?_⟩
   refine awQ <| a_end (by kernel_rfl) <| cwQ <| seq <| region <| vM <| sv (yEql rfl rfl) <| nil <| cwQ ?_
   refine cond rfl ?_ ?_ <;> intro c112 <;> simp only [BS, ne_eq] at c112
   ·
    refine region_mix (fun w => StX [] w0 w (blk b8 (spanC (soundF t.gauges t.wrong (t.frm + k) now).1) 69 :: blk bk (knQ t now cv ag ak ae cg ck ce (some ⟨gw, 0, none⟩) cw ax cx (.slice (some ⟨go, 0, none⟩) t.ticks.toNat co)) 115 :: rowI (.slice (some ⟨gw, 0, none⟩) t.ticks.toNat cw) 69 2 t.ticks.toNat ((tidesS t).flatMap spanC) :: rowI (.slice ax t.ctrs.length cx) 3 1 t.ctrs.length ((curS t now).flatMap Bx.encI) :: L9)) 9 mixed hS ?_
    clear hS; intro w hS
    refine fsQ 0 rfl (fun w hS => yMove h0) <| fsQ 1 rfl (fun w hS => yNil rfl) <| fsQ 2 rfl (fun w hS => fa115_4 rfl) <| fsQ 3 rfl (fun w hS => yLdB rfl isAgg113 (hS.at _) rfl) <| fsQ 4 rfl (fun w hS => yMove rfl) <| fsQ 5 rfl (fun w hS => yTailLt (i := k) rfl rfl underlying113 sizeOf69 (by omega) (by omega)) <| fsQ 6 rfl (fun w hS => yLdBA rfl isAgg69 sizeOf69 (hS.at _) rfl rfl) <| awQ <| a1Q 7 rfl ?_
    refine sbslice hS underlying113 sizeOf69 rfl zeroValue69 rfl (.cons rfl rfl .nil) rfl fun b120 w hS => ?_
    refine nil <| kpQ <| awQ <| awQ <| a1Q 8 rfl ?_
    refine scall call79 e2 (c_meetS (o := k) (ss := baseK t now k) (os := [(soundF t.gauges t.wrong (t.frm + k) now).1]) (hS.perm (perm_c _ _ _ _)) (fun q w2 h2 => sl_span1 (h2.at b120) ((sound_sbd c112).mono (by decide)).i64) (by show 1 ≤ _; omega) (baseK_len ..) (by omega) (by omega)) ?_
    clear hS; rintro _ w ⟨-, hS⟩
    replace hS : StX [] w0 w (rowI (.slice (some ⟨go, 0, none⟩) t.ticks.toNat co) 69 2 t.ticks.toNat ((meetK (baseK t now k) [(soundF t.gauges t.wrong (t.frm + k) now).1] k 1).flatMap spanC) :: _) := hS
    rw [meetK_one, ← baseK_yes hkl hg1 c112] at hS
    refine nil <| kpQ <| awQ <| a_end (by kernel_rfl) <| cwQ <| region <| sv (yAddQ h76 rfl) <| vM <| nil ?_
    exact ⟨_, _, rfl, ⟨k + 1, h0, h74, h75, rfl, (hS.sub (.cons_cons _ (.cons _ (.cons _ lrQ)))), (by omega), rfl⟩, by omega⟩
   refine skip <| cwQ <| region <| sv (yAddQ h76 rfl) <| vM <| nil ?_
   exact ⟨_, _, rfl, ⟨k + 1, h0, h74, h75, rfl, (by rw [baseK_no c112]; exact hS.sub (.cons _ lrQ)), (by omega), rfl⟩, by omega⟩
  obtain rfl : k = t.ticks.toNat := by omega
  rw [baseK_all] at hS
  refine exit <| cwQ <| seq <| region <| sv (yMove h0) <| sv (yNil rfl) <| sv (fa115_4 rfl) <| vL rfl isAgg113 hS rfl ?_
  refine scall call66 e1 (c_CloneS (sl_spans (hS.row _) (baseS_len ..) (lbd_i64 (baseS_lbd hok now))) (baseS_len ..) (by omega)) ?_
  rintro u w hM2; replace hS := hS.call1 hM2; clear hM2
  refine vA <| nil <| cwQ <| wp_ret <| retQ (res1 rfl rfl) ?_
  exact ⟨_, hS.perm ((List.Perm.swap _ _ _).cons _)⟩
 obtain ⟨rfl, rfl⟩ : os = baseS t now ∧ mo = t.ticks.toNat := by
  rcases hown with ⟨_, _, e⟩ | hh
  ·
   cases e; cases c14
  exact hh
 refine skip <| cwQ <| seq <| region <| vM <| sv (yNil rfl) <| sv (fa115_4 rfl) <| vL rfl isAgg113 hS rfl ?_
 refine scall call66 e1 (c_CloneS (sl_spans (hS.row _) (baseS_len ..) (lbd_i64 (baseS_lbd hok now))) (baseS_len ..) (by omega)) ?_
 rintro u w hM2; replace hS := hS.call1 hM2; clear hM2
 refine vA <| nil <| cwQ <| wp_ret <| retQ (res1 rfl rfl) ?_
 exact ⟨_, hS⟩
theorem c_with {t : Sgt} {cv : Value} {ag ak ae : Option Addr} {cg ck ce : Nat} {now : Int} {w0 : World} (h : RSgt w0 (scQ t cv ag ak ae cg ck ce) t) (hI : I64 now) : CE Tryz.prog 10 #[.agg (scQ t cv ag ak ae cg ck ce).toArray, .int .i64 now] w0 (fun u w' => (askE t now ≠ 0 ∧ u = .tuple #[.pointer none, .int .i64 (askE t now)] ∧ Ext w0 w') ∨ (askE t now = 0 ∧ ∃ bk aw cw ax cx, u = .tuple #[ptQ bk, .int .i64 0] ∧ St w0 w' [blk bk (knQ t now cv ag ak ae cg ck ce aw cw ax cx (.slice none 0 0)) 115, rowI (.slice aw t.ticks.toNat cw) 69 2 t.ticks.toNat ((tidesS t).flatMap spanC), rowI (.slice ax t.ctrs.length cx) 3 1 t.ctrs.length ((curS t now).flatMap Bx.encI)])) := by
 obtain ⟨hT, hG, hw64, hf64, hk64, hC, hF, hl64, hm64, hr64, hq64⟩ := RSgt.parts h
 refine enQ func10 rfl ntmps10 rfl fun hS => ?_
 refine seq <| region ?_
 refine sbox hS rfl rfl fun b2 w hS => ?_
 refine vA <| vA <| nil <| cwQ <| seq <| region <| sv (yLdBA rfl isAgg29 sizeOf29 (hS.at _) rfl rfl) ?_
 refine scV hS call31 e1 (c_CheckS (h.ext hS.ext)) fun w hS => ?_
 refine vM <| sv (yExt rfl rfl) <| sv (yExt rfl rfl) <| sv (yExt rfl rfl) <| vA <| vA <| vA <| nil <| cwQ <| seq <| block <| seq <| region ?_
 refine vM <| sv (yNeq rfl rfl) <| vA <| nil <| cwQ ?_
 refine cond rfl ?_ ?_ <;> intro c21 <;> simp only [BS, ne_eq] at c21
 ·
  refine seq <| region <| vM <| vA <| vA <| nil <| cwQ ?_
  refine wp_ret (blockR (thenR ?_))
  refine retQ (res2 rfl rfl rfl) ?_
  have hE : askE t now = (checkS t).2.2 := by unfold askE; rw [if_pos c21]
  exact .inl ⟨by rw [hE]; exact c21, by rw [hE]; rfl, hS.ext⟩
 refine seq <| region <| vM ?_
 refine scV hS call32 e3 c_outS fun w hS => ?_
 refine vA <| nil <| cwQ ?_
 refine cond rfl (fun c25 => ?_) (fun c25 => ?_)
 ·
  refine seq <| region <| vA <| vA <| nil <| cwQ ?_
  refine wp_ret (blockR (thenR ?_))
  refine retQ (res2 rfl rfl rfl) ?_
  have hE : askE t now = 7 := by unfold askE; rw [if_neg (fun k => k c21), if_pos c25]
  exact .inl ⟨by rw [hE]; decide, by rw [hE]; rfl, hS.ext⟩
 have hask : askE t now = 0 := by unfold askE; rw [if_neg (fun k => k c21), if_neg (by rw [c25]; decide)]
 obtain ⟨hok, hnow⟩ := askE_ok hask
 have htk := hok.tk
 have hnc := hok.nc
 have hnf := hok.nf
 refine skip <| cwQ <| seq <| region <| sv (yLdBA rfl isAgg29 sizeOf29 (hS.at _) rfl rfl) <| vM <| sv (yBuild zeroValue115 rfl pl115 (.cons rfl rfl (.cons rfl rfl .nil)) rfl) ?_
 refine sbox hS rfl rfl fun b31 w hS => ?_
 refine vA <| nil <| cwQ <| seq <| region <| vM <| sv (fa29_0 rfl) <| sv (yLdBA rfl isAgg24 sizeOf24 (hS.at _) rfl rfl) <| sv (fa29_3 rfl) <| vL rfl isAgg3 hS rfl <| sv (fa29_4 rfl) <| vL rfl isAgg3 hS rfl ?_
 refine scall call33 e3 (c_Levels (RTable.stays _ _ _ _ hS.ext hT)) ?_
 rintro _ w ⟨tv, rfl, hM⟩; replace hS := hS.call1 hM; clear hM
 rw [levelsF_good hok.lev, show lvlsL t.table t.frm t.ticks.toNat = tidesS t from rfl, tidesS_len] at hS
 obtain ⟨aw, cw, rfl⟩ := row_shape (hS.row tv)
 refine vM <| sv (yExt rfl rfl) <| sv (yExt rfl rfl) <| sv (yNil rfl) <| sv (fa115_2 rfl) ?_
 refine sS hS rfl sizeOf113 fun w hS => ?_
 refine nil <| cwQ <| seq <| seq <| region <| sv (fa29_5 rfl) <| vL rfl isAgg26 hS rfl <| sv (yLen rfl underlying26) <| vM <| nil <| cwQ <| block <| loop (fun f w zz => ∃ (k : Nat) (xv : Value), f 1 = .int .i64 now ∧ f 2 = ptQ b2 ∧ f 9 = ptQ b31 ∧ f 46 = .slice ak t.ctrs.length ck ∧ f 47 = .int .i64 (t.ctrs.length : Int) ∧ f 48 = .int .i64 (k : Int) ∧ StX [] w0 w ([rowI (xv) 3 1 k (((curS t now).take k).flatMap Bx.encI), rowI (.slice aw t.ticks.toNat cw) 69 2 t.ticks.toNat ((tidesS t).flatMap spanC), blk b31 [.int .i64 t.table.mean, cv, .slice ag t.gauges.length cg, .int .i64 t.wrong, .int .i64 t.frm, .int .i64 t.ticks, .slice ak t.ctrs.length ck, .slice ae t.fcs.length ce, .int .i64 t.least, .int .i64 t.most, .int .i64 t.rate, .int .i64 t.quorum, .int .i64 now, .slice aw t.ticks.toNat cw, xv, .slice none 0 0] 115, blk b2 (scQ t cv ag ak ae cg ck ce) 29]) ∧ (k ≤ t.ctrs.length) ∧ zz = t.ctrs.length - k) _ ⟨_, rfl, 0, _, rfl, rfl, rfl, rfl, rfl, rfl, (hS.nilrow 3 1), (Nat.zero_le _), rfl⟩ ?_
 clear hS
 rintro f w _ ⟨k, xv, h1, h2, h9, h46, h47, h48, hS, hk, rfl⟩
 refine seq <| region <| sv (yLss h48 h47) <| nil <| cwQ <| seq ?_
 refine cond rfl ?_ ?_ <;> intro c49 <;> simp only [BS, ne_eq] at c49
 ·
  have hkl : k < t.ctrs.length := by omega
  obtain ⟨bq, oq, cq, haq, hlq, hcq, hRq, -⟩ := sl_at hC (ctr_get hkl)
  obtain ⟨rfl, hnm, -⟩ := hRq
  obtain ⟨q1, q2, q3⟩ := hok.ctrs hkl
  refine skip <| cwQ <| seq <| block <| seq <| region <| sv (yMove h48) <| sv (yIxQ h46 haq h48 runUnderlying26 sizeOf118) <| sv (yLdA rfl isAgg118 sizeOf118 (hcq.ext hS.ext) rfl) ?_
  refine salloc hS zeroValue118 rfl fun b11 w hS => ?_
  refine vA ?_
  refine sS hS rfl sizeOf118 fun w hS => ?_
  refine nil <| cwQ <| seq <| region <| vA <| nil <| cwQ <| seq <| seq <| region <| sv (fa29_6 h2) <| vL rfl isAgg27 hS rfl <| sv (yLen rfl underlying27) ?_
  refine vM <| nil <| cwQ <| block <| loop (fun f w zz => ∃ (j : Nat), f 1 = .int .i64 now ∧ f 2 = ptQ b2 ∧ f 9 = ptQ b31 ∧ f 46 = .slice ak t.ctrs.length ck ∧ f 47 = .int .i64 (t.ctrs.length : Int) ∧ f 48 = .int .i64 (k : Int) ∧ f 10 = .int .i64 (k : Int) ∧ f 11 = ptQ b11 ∧ f 12 = .int .i64 (curK t now k j) ∧ f 54 = .slice ae t.fcs.length ce ∧ f 55 = .int .i64 (t.fcs.length : Int) ∧ f 56 = .int .i64 (j : Int) ∧ StX [] w0 w ([blk b11 (ctrC (ctr t.ctrs k)) 118, rowI (xv) 3 1 k (((curS t now).take k).flatMap Bx.encI), rowI (.slice aw t.ticks.toNat cw) 69 2 t.ticks.toNat ((tidesS t).flatMap spanC), blk b31 [.int .i64 t.table.mean, cv, .slice ag t.gauges.length cg, .int .i64 t.wrong, .int .i64 t.frm, .int .i64 t.ticks, .slice ak t.ctrs.length ck, .slice ae t.fcs.length ce, .int .i64 t.least, .int .i64 t.most, .int .i64 t.rate, .int .i64 t.quorum, .int .i64 now, .slice aw t.ticks.toNat cw, xv, .slice none 0 0] 115, blk b2 (scQ t cv ag ak ae cg ck ce) 29]) ∧ (j ≤ t.fcs.length) ∧ zz = t.fcs.length - j) _ ⟨_, rfl, 0, h1, h2, h9, h46, h47, h48, rfl, rfl, rfl, rfl, rfl, rfl, hS, (Nat.zero_le _), rfl⟩ ?_
  clear hS
  rintro f w _ ⟨j, h1, h2, h9, h46, h47, h48, h10, h11, h12, h54, h55, h56, hS, hj, rfl⟩
  refine seq <| region <| sv (yLss h56 h55) <| nil <| cwQ <| seq ?_
  refine cond rfl ?_ ?_ <;> intro c57 <;> simp only [BS, ne_eq] at c57
  ·
   have hjl : j < t.fcs.length := by omega
   obtain ⟨bf, of, cf, haf, hlf, hcf, hRf, -⟩ := sl_at hF (fct_get hjl)
   obtain ⟨mv, rfl, hf1, hf2, hf3, hMm⟩ := hRf
   obtain ⟨am, cm, rfl, -⟩ := id hMm
   obtain ⟨fo1, fo2, fo3, -⟩ := hok.fcts hjl
   have hcb := curK_bd t now k j
   obtain ⟨bl, ol, hlast⟩ := fct_if hF (curK t now k j) (by omega)
   refine skip <| cwQ <| seq <| block <| seq <| region <| sv (yMove h56) <| sv (yIxQ h54 haf h56 runUnderlying27 sizeOf121) <| sv (yLdA rfl isAgg121 sizeOf121 (hcf.ext hS.ext) rfl) ?_
   refine salloc hS zeroValue121 rfl fun b14 w hS => ?_
   refine vA ?_
   refine sS hS rfl sizeOf121 fun w hS => ?_
   refine nil <| cwQ <| seq <| region_draw mixed (by kernel_rfl) hS <| qv (fun w hS => fa121_0 rfl) <| qv (fun w hS => yLdB rfl isAgg3 (hS.at _) rfl) <| qv (fun w hS => yMove h10) <| qv (fun w hS => yEql rfl rfl) <| qv (fun w hS => yMove rfl) ?_
   refine qg rfl rfl rfl (fun g w hS => (fa121_1 rfl)) (fun v66 g66 => ?_)
   refine qg rfl rfl rfl (fun g w hS => (yLdB (g66.1 g) isAgg3 (hS.at _) rfl)) (fun v67 g67 => ?_)
   refine qg rfl rfl rfl (fun g w hS => (yMove h1)) (fun v68 g68 => ?_)
   refine qg rfl rfl rfl (fun g w hS => (fa118_1 h11)) (fun v69 g69 => ?_)
   refine qg rfl rfl rfl (fun g w hS => (yLdB (g69.1 g) isAgg3 (hS.at _) rfl)) (fun v70 g70 => ?_)
   refine qg rfl rfl rfl (fun g w hS => (ySub (g68.1 g) (g70.1 g) ⟨by omega, by omega⟩)) (fun v71 g71 => ?_)
   refine qg rfl rfl rfl (fun g w hS => (yLeq (g67.1 g) (g71.1 g))) (fun v72 g72 => ?_)
   refine qv (fun w hS => yAnd rfl (fun hB => (g72.1 hB)) rfl) <| qv (fun w hS => yMove rfl) ?_
   refine qg rfl rfl rfl (fun g w hS => (yMove h12)) (fun v75 g75 => ?_)
   refine qg rfl rfl rfl (fun g w hS => (yLss (g75.1 g) rfl)) (fun v76 g76 => ?_)
   refine qg rfl rfl rfl (fun g w hS => (yMove (g76.1 g))) (fun v77 g77 => ?_)
   refine qgg rfl rfl g77 (fun g w hS => (fa121_1 rfl)) (fun v78 g78 => ?_)
   refine qgg rfl rfl g77 (fun g w hS => (yLdB (g78.1 g) isAgg3 (hS.at _) rfl)) (fun v79 g79 => ?_)
   refine qgg rfl rfl g77 (fun g w hS => (fa29_6 h2)) (fun v80 g80 => ?_)
   refine qgg rfl rfl g77 (fun g w hS => (yLdB (g80.1 g) isAgg27 (hS.at _) rfl)) (fun v81 g81 => ?_)
   refine qgg rfl rfl g77 (fun g w hS => (yMove h12)) (fun v82 g82 => ?_)
   refine qgg rfl rfl g77 (fun g w hS => (yIxa (g81.1 g) (hlast (by have := of_decide_eq_false g.2; omega)).1 ((g82.1 g).trans (congrArg (Value.int .i64) (show curK t now k j = (((curK t now k j).toNat : Nat) : Int) by have := of_decide_eq_false g.2; omega))) runUnderlying27 sizeOf121 (by have := of_decide_eq_false g.2; omega) (by have := of_decide_eq_false g.2; omega))) (fun v83 g83 => ?_)
   refine qgg rfl rfl g77 (fun g w hS => (fa121_1 (g83.1 g))) (fun v84 g84 => ?_)
   refine qgg rfl rfl g77 (fun g w hS => (yLd (g84.1 g) isAgg3 ((hlast (by have := of_decide_eq_false g.2; omega)).2 |> hS.ext.cell))) (fun v85 g85 => ?_)
   refine qgg rfl rfl g77 (fun g w hS => (yGtr (g79.1 g) (g85.1 g))) (fun v86 g86 => ?_)
   refine qg rfl rfl rfl (fun g w hS => (yOr (g77.1 g) rfl (fun hB => (g86.1 ⟨g, hB⟩)))) (fun v87 g87 => ?_)
   refine qv (fun w hS => yAnd rfl (fun hB => (g87.1 hB)) rfl) ?_
   clear hS; refine qnil (fun w hS => ?_)
   refine cwQ ?_
   refine cond rfl ?_ ?_ <;> intro c88 <;> simp only [BS, ne_eq] at c88
   ·
    refine region <| vM <| vA <| nil <| cwQ <| region <| sv (yAddQ h56 rfl) <| vM <| nil ?_
    exact ⟨_, _, rfl, ⟨j + 1, h1, h2, h9, h46, h47, h48, h10, h11, (rfl.trans (congrArg (Value.int .i64) (by rw [curK_succ]; unfold curStep; rw [if_pos ⟨c88.1.1, c88.1.2, c88.2⟩]))), h54, h55, rfl, (hS.sub (.cons _ lrQ)), (by omega), rfl⟩, by omega⟩
   refine skip <| cwQ <| region <| sv (yAddQ h56 rfl) <| vM <| nil ?_
   exact ⟨_, _, rfl, ⟨j + 1, h1, h2, h9, h46, h47, h48, h10, h11, (h12.trans (congrArg (Value.int .i64) (by rw [curK_succ]; unfold curStep; rw [if_neg (fun hh => by omega)]))), h54, h55, rfl, (hS.sub (.cons _ lrQ)), (by omega), rfl⟩, by omega⟩
  obtain rfl : j = t.fcs.length := by omega
  refine exit <| cwQ <| region <| sv (yMove h9) <| sv (yMove h9) <| sv (yNil rfl) <| sv (fa115_3 rfl) <| vL rfl isAgg30 hS rfl <| sv (yMove h12) ?_
  refine sbslice hS underlying30 sizeOf3 rfl zeroValue3 rfl (.cons rfl rfl .nil) rfl fun b97 w hS => ?_
  refine sapp (bytes := 8) (size := 1) (v := xv) (m := 1) hS rfl rfl underlying30 ti3 rfl rfl rfl rfl (by decide) (blk_cells (hS.at _)) rfl rfl (by have := hok.nc; omega) (by have := hok.nc; omega) ?_; clear hS; intro v98 w hS
  refine sv (yNil rfl) <| sv (fa115_3 rfl) ?_
  obtain ⟨a98, c98, rfl⟩ := row_shape (hS.row v98)
  refine sS hS rfl sizeOf30 fun w hS => ?_
  refine nil <| cwQ <| region <| sv (yAddQ h48 rfl) <| vM <| nil ?_
  exact ⟨_, _, rfl, ⟨k + 1, _, h1, h2, h9, h46, h47, rfl, (by rw [take_snoc (curS_get t now hkl), List.flatMap_append]; exact hS.sub (.cons _ (.cons _ lrQ))), (by omega), rfl⟩, by omega⟩
 obtain rfl : k = t.ctrs.length := by omega
 rw [← curS_len t now, List.take_length, curS_len] at hS
 obtain ⟨ax, cx, rfl⟩ := row_shape (hS.row xv)
 refine exit <| cwQ <| seq <| region <| sv (yMove h9) <| vA <| vA <| nil <| cwQ <| wp_ret <| retQ (res2 rfl rfl rfl) ?_
 exact .inr ⟨hask, b31, aw, cw, ax, cx, rfl, hS.perm (with_perm _ _ _ _) |>.sub (.cons_cons _ (.cons_cons _ (.cons_cons _ (List.nil_sublist _))))⟩
theorem c_endsS {l : List Span} {v : Value} {fr : Int} {nn : Nat} {w0 : World} (hsl : Sl w0 2 RSpan v l) (hn : l.length = nn) (hlen : nn ≤ 1000) : CE Tryz.prog 68 #[v, .int .i64 fr] w0 (fun u w' => ∃ lv hv, u = .tuple #[.agg [.int .i64 fr, lv].toArray, .agg [.int .i64 fr, hv].toArray] ∧ St w0 w' [rowI lv 3 1 nn ((losS l).flatMap Bx.encI), rowI hv 3 1 nn ((hisS l).flatMap Bx.encI)]) := by
 subst hn
 obtain ⟨a, cap, rfl, hcap, hmx, -⟩ := id hsl
 refine enQ func68 rfl ntmps68 rfl fun hS => ?_
 refine seq <| region ?_
 refine salloc hS zeroValue32 rfl fun b4 w hS => ?_
 refine salloc hS zeroValue32 rfl fun b5 w hS => ?_
 refine nil <| cwQ <| seq <| region <| vM <| vM <| sv (fa32_0 rfl) ?_
 refine sS hS rfl sizeOf3 fun w hS => ?_
 refine sv (fa32_0 rfl) ?_
 refine sS hS rfl sizeOf3 fun w hS => ?_
 refine nil <| cwQ <| seq <| seq <| region <| vM <| sv (yLen rfl underlying113) <| vM <| nil <| cwQ <| block <| loop (fun f w zz => ∃ (k : Nat) (lv hv : Value), f 0 = .slice a l.length cap ∧ f 4 = ptQ b4 ∧ f 5 = ptQ b5 ∧ f 12 = .slice a l.length cap ∧ f 13 = .int .i64 (l.length : Int) ∧ f 14 = .int .i64 (k : Int) ∧ StX [] w0 w [rowI (lv) 3 1 k (((losS l).take k).flatMap Bx.encI), rowI (hv) 3 1 k (((hisS l).take k).flatMap Bx.encI), blk b5 [.int .i64 fr, hv] 32, blk b4 [.int .i64 fr, lv] 32] ∧ (k ≤ l.length) ∧ zz = l.length - k) _ ⟨_, rfl, 0, _, _, rfl, rfl, rfl, rfl, rfl, rfl, ((hS.nilrow 3 1).nilrow 3 1), (Nat.zero_le _), rfl⟩ ?_
 clear hS
 rintro f w _ ⟨k, lv, hv, h0, h4, h5, h12, h13, h14, hS, hk, rfl⟩
 refine seq <| region <| sv (yLss h14 h13) <| nil <| cwQ <| seq ?_
 refine cond rfl ?_ ?_ <;> intro c15 <;> simp only [BS, ne_eq] at c15
 ·
  have hkl : k < l.length := by omega
  obtain ⟨bx, ox, cx, hax, hlx, hcx, hRx, -⟩ := sl_at hsl (spn_get (l := l) hkl)
  obtain ⟨rfl, -⟩ := hRx
  refine skip <| cwQ <| seq <| block <| seq <| region <| sv (yIxQ h12 hax h14 runUnderlying113 sizeOf69) <| sv (yLdA rfl isAgg69 sizeOf69 (hcx.ext hS.ext) rfl) ?_
  refine salloc hS zeroValue69 rfl fun b7 w hS => ?_
  refine sS hS rfl sizeOf69 fun w hS => ?_
  refine nil <| cwQ ?_
  refine rmQ (fun w => w.heap[b4]? = some (.cells ([.int .i64 fr, lv] : List Value).toArray 32 (0, 0)) ∧ w.heap[b7]? = some (.cells (spanC (spn l k) : List Value).toArray 69 (0, 0))) (fun w => w.heap[b5]? = some (.cells ([.int .i64 fr, hv] : List Value).toArray 32 (0, 0)) ∧ w.heap[b7]? = some (.cells (spanC (spn l k) : List Value).toArray 69 (0, 0))) [13] [15] mixed hS ?_; clear hS; intro w hS
  refine mQ 0 rfl (fun w hS => fa32_1 h4) <| mq 1 1 [5, 11, 12, 13] (by kernel_rfl) rfl ⟨hS.at b4, hS.at b7⟩ (fun w hS => yLdB rfl isAgg30 hS.1 rfl) <| mQ 2 rfl (fun w hS => fa69_0 rfl) <| mq 1 3 [4, 5, 11, 12, 13] (by kernel_rfl) rfl ⟨hS.at b4, hS.at b7⟩ (fun w hS => yLdB rfl isAgg3 hS.2 rfl) <| mQ 6 rfl (fun w hS => fa32_1 h5) <| mq 2 7 [11, 13, 14, 15] (by kernel_rfl) rfl ⟨hS.at b5, hS.at b7⟩ (fun w hS => yLdB rfl isAgg30 hS.1 rfl) <| mQ 8 rfl (fun w hS => fa69_1 rfl) <| mq 2 9 [10, 11, 13, 14, 15] (by kernel_rfl) rfl ⟨hS.at b5, hS.at b7⟩ (fun w hS => yLdB rfl isAgg3 hS.2 rfl) ?_
  refine ms (i := 4) (is := [10]) (by kernel_rfl) ⟨⟨_, rfl, ?_⟩, ⟨_, rfl, ?_⟩, trivial⟩
  ·
   refine sbslice hS underlying30 sizeOf3 rfl zeroValue3 rfl (.cons rfl rfl .nil) rfl fun b22 w hS => ?_
   refine nil ⟨⟨fun _ _ => ⟨hS.at b4, hS.at b7⟩, fun _ _ => ⟨hS.at b5, hS.at b7⟩⟩, mw ?_⟩
   refine ms (i := 5) (is := [10]) (by kernel_rfl) ⟨⟨_, rfl, ?_⟩, ⟨_, rfl, ?_⟩, trivial⟩
   ·
    refine sapp (bytes := 8) (size := 1) (v := lv) (m := 1) hS rfl rfl underlying30 ti3 rfl rfl rfl rfl (by decide) (blk_cells (hS.at _)) rfl rfl (by omega) (by omega) ?_; clear hS; intro v23 w hS
    refine nil ⟨⟨fun _ _ => ⟨hS.at b4, hS.at b7⟩, fun _ _ => ⟨hS.at b5, hS.at b7⟩⟩, mw ?_⟩
    refine mQ 12 rfl (fun w hS => fa32_1 h4) <| m1Q 10 rfl ?_
    refine sbslice hS underlying30 sizeOf3 rfl zeroValue3 rfl (.cons rfl rfl .nil) rfl fun b28 w hS => ?_
    refine nil ⟨⟨fun _ _ => ⟨hS.at b4, hS.at b7⟩, fun _ _ => ⟨hS.at b5, hS.at b7⟩⟩, mw ?_⟩
    refine m1Q 11 rfl ?_
    refine sapp (bytes := 8) (size := 1) (v := hv) (m := 1) hS rfl rfl underlying30 ti3 rfl rfl rfl rfl (by decide) (blk_cells (hS.at _)) rfl rfl (by omega) (by omega) ?_; clear hS; intro v29 w hS
    refine nil ⟨⟨fun _ _ => ⟨hS.at b4, hS.at b7⟩, fun _ _ => ⟨hS.at b5, hS.at b7⟩⟩, mw ?_⟩
    refine m1Q 13 rfl ?_
    obtain ⟨a23, c23, rfl⟩ := row_shape (hS.row v23)
    refine sS hS rfl sizeOf30 fun w hS => ?_
    refine nil ⟨⟨fun h => absurd h (by decide), fun _ _ => ⟨hS.at b5, hS.at b7⟩⟩, mw ?_⟩
    refine mQ 14 rfl (fun w hS => fa32_1 h5) <| m1Q 15 rfl ?_
    have hS0 := hS
    obtain ⟨a29, c29, rfl⟩ := row_shape (hS.row v29)
    refine sS hS rfl sizeOf30 fun w hS => ?_
    refine nil ⟨⟨fun _ h => ⟨(hS.at b4).trans ((hS0.at b4).symm.trans h.1), hS.at b7⟩, fun h => absurd h (by decide)⟩, mw ?_⟩
    refine me (by kernel_rfl) <| cwQ <| region <| sv (yAddQ h14 rfl) <| vM <| nil ?_
    exact ⟨_, _, rfl, ⟨k + 1, _, _, h0, h4, h5, h12, h13, rfl, (by rw [take_snoc (show (losS l)[k]? = some (spn l k).lo by simp [losS, spn_get hkl]), take_snoc (show (hisS l)[k]? = some (spn l k).hi by simp [hisS, spn_get hkl]), List.flatMap_append, List.flatMap_append]; first | exact hS.sub (.cons _ (.cons _ (.cons _ lrQ))) | exact (hS.sub (.cons _ (.cons _ (.cons _ lrQ)))).perm (List.Perm.swap _ _ _)), (by omega), rfl⟩, by omega⟩
   refine sbslice hS underlying30 sizeOf3 rfl zeroValue3 rfl (.cons rfl rfl .nil) rfl fun b28 w hS => ?_
   refine nil ⟨⟨fun _ _ => ⟨hS.at b4, hS.at b7⟩, fun _ _ => ⟨hS.at b5, hS.at b7⟩⟩, mw ?_⟩
   refine m1Q 5 rfl ?_
   refine sapp (bytes := 8) (size := 1) (v := lv) (m := 1) hS rfl rfl underlying30 ti3 rfl rfl rfl rfl (by decide) (blk_cells (hS.at _)) rfl rfl (by omega) (by omega) ?_; clear hS; intro v23 w hS
   refine nil ⟨⟨fun _ _ => ⟨hS.at b4, hS.at b7⟩, fun _ _ => ⟨hS.at b5, hS.at b7⟩⟩, mw ?_⟩
   refine mQ 12 rfl (fun w hS => fa32_1 h4) <| m1Q 11 rfl ?_
   refine sapp (bytes := 8) (size := 1) (v := hv) (m := 1) hS rfl rfl underlying30 ti3 rfl rfl rfl rfl (by decide) (blk_cells (hS.at _)) rfl rfl (by omega) (by omega) ?_; clear hS; intro v29 w hS
   refine nil ⟨⟨fun _ _ => ⟨hS.at b4, hS.at b7⟩, fun _ _ => ⟨hS.at b5, hS.at b7⟩⟩, mw ?_⟩
   refine m1Q 13 rfl ?_
   obtain ⟨a23, c23, rfl⟩ := row_shape (hS.row v23)
   refine sS hS rfl sizeOf30 fun w hS => ?_
   refine nil ⟨⟨fun h => absurd h (by decide), fun _ _ => ⟨hS.at b5, hS.at b7⟩⟩, mw ?_⟩
   refine mQ 14 rfl (fun w hS => fa32_1 h5) <| m1Q 15 rfl ?_
   have hS0 := hS
   obtain ⟨a29, c29, rfl⟩ := row_shape (hS.row v29)
   refine sS hS rfl sizeOf30 fun w hS => ?_
   refine nil ⟨⟨fun _ h => ⟨(hS.at b4).trans ((hS0.at b4).symm.trans h.1), hS.at b7⟩, fun h => absurd h (by decide)⟩, mw ?_⟩
   refine me (by kernel_rfl) <| cwQ <| region <| sv (yAddQ h14 rfl) <| vM <| nil ?_
   exact ⟨_, _, rfl, ⟨k + 1, _, _, h0, h4, h5, h12, h13, rfl, (by rw [take_snoc (show (losS l)[k]? = some (spn l k).lo by simp [losS, spn_get hkl]), take_snoc (show (hisS l)[k]? = some (spn l k).hi by simp [hisS, spn_get hkl]), List.flatMap_append, List.flatMap_append]; first | exact hS.sub (.cons _ (.cons _ (.cons _ lrQ))) | exact (hS.sub (.cons _ (.cons _ (.cons _ lrQ)))).perm (List.Perm.swap _ _ _)), (by omega), rfl⟩, by omega⟩
  refine sbslice hS underlying30 sizeOf3 rfl zeroValue3 rfl (.cons rfl rfl .nil) rfl fun b28 w hS => ?_
  refine nil ⟨⟨fun _ _ => ⟨hS.at b4, hS.at b7⟩, fun _ _ => ⟨hS.at b5, hS.at b7⟩⟩, mw ?_⟩
  refine m1Q 4 rfl ?_
  refine sbslice hS underlying30 sizeOf3 rfl zeroValue3 rfl (.cons rfl rfl .nil) rfl fun b22 w hS => ?_
  refine nil ⟨⟨fun _ _ => ⟨hS.at b4, hS.at b7⟩, fun _ _ => ⟨hS.at b5, hS.at b7⟩⟩, mw ?_⟩
  refine m1Q 5 rfl ?_
  refine sapp (bytes := 8) (size := 1) (v := lv) (m := 1) hS rfl rfl underlying30 ti3 rfl rfl rfl rfl (by decide) (blk_cells (hS.at _)) rfl rfl (by omega) (by omega) ?_; clear hS; intro v23 w hS
  refine nil ⟨⟨fun _ _ => ⟨hS.at b4, hS.at b7⟩, fun _ _ => ⟨hS.at b5, hS.at b7⟩⟩, mw ?_⟩
  refine mQ 12 rfl (fun w hS => fa32_1 h4) <| m1Q 11 rfl ?_
  refine sapp (bytes := 8) (size := 1) (v := hv) (m := 1) hS rfl rfl underlying30 ti3 rfl rfl rfl rfl (by decide) (blk_cells (hS.at _)) rfl rfl (by omega) (by omega) ?_; clear hS; intro v29 w hS
  refine nil ⟨⟨fun _ _ => ⟨hS.at b4, hS.at b7⟩, fun _ _ => ⟨hS.at b5, hS.at b7⟩⟩, mw ?_⟩
  refine m1Q 13 rfl ?_
  obtain ⟨a23, c23, rfl⟩ := row_shape (hS.row v23)
  refine sS hS rfl sizeOf30 fun w hS => ?_
  refine nil ⟨⟨fun h => absurd h (by decide), fun _ _ => ⟨hS.at b5, hS.at b7⟩⟩, mw ?_⟩
  refine mQ 14 rfl (fun w hS => fa32_1 h5) <| m1Q 15 rfl ?_
  have hS0 := hS
  obtain ⟨a29, c29, rfl⟩ := row_shape (hS.row v29)
  refine sS hS rfl sizeOf30 fun w hS => ?_
  refine nil ⟨⟨fun _ h => ⟨(hS.at b4).trans ((hS0.at b4).symm.trans h.1), hS.at b7⟩, fun h => absurd h (by decide)⟩, mw ?_⟩
  refine me (by kernel_rfl) <| cwQ <| region <| sv (yAddQ h14 rfl) <| vM <| nil ?_
  exact ⟨_, _, rfl, ⟨k + 1, _, _, h0, h4, h5, h12, h13, rfl, (by rw [take_snoc (show (losS l)[k]? = some (spn l k).lo by simp [losS, spn_get hkl]), take_snoc (show (hisS l)[k]? = some (spn l k).hi by simp [hisS, spn_get hkl]), List.flatMap_append, List.flatMap_append]; first | exact hS.sub (.cons _ (.cons _ (.cons _ lrQ))) | exact (hS.sub (.cons _ (.cons _ (.cons _ lrQ)))).perm (List.Perm.swap _ _ _)), (by omega), rfl⟩, by omega⟩
 obtain rfl : k = l.length := by omega
 rw [show (losS l).take l.length = losS l from List.take_of_length_le (by simp [losS]), show (hisS l).take l.length = hisS l from List.take_of_length_le (by simp [hisS])] at hS
 refine exit <| cwQ <| seq <| region_mix (fun w => w.heap[b4]? = some (.cells ([.int .i64 fr, lv] : List Value).toArray 32 (0, 0)) ∧ w.heap[b5]? = some (.cells ([.int .i64 fr, hv] : List Value).toArray 32 (0, 0))) 4 mixed hS ?_
 clear hS; intro w hS
 obtain ⟨alv, clv, rfl⟩ := row_shape (hS.row lv)
 obtain ⟨ahv, chv, rfl⟩ := row_shape (hS.row hv)
 refine fsR 0 rfl ⟨hS.at b4, hS.at b5⟩ (fun w hS => yLdBA h4 isAgg32 sizeOf32 hS.1 rfl rfl) <| fsR 1 rfl ⟨hS.at b4, hS.at b5⟩ (fun w hS => yLdBA h5 isAgg32 sizeOf32 hS.2 rfl rfl) <| awQ <| a1Q 2 rfl ?_
 refine sS hS h4 sizeOf32 fun w hS => ?_
 refine nil ?_
 refine ⟨fun _ => ⟨hS.at b4, hS.at b5⟩, ?_⟩
 refine awQ <| awQ <| a1Q 3 rfl ?_
 refine sS hS h5 sizeOf32 fun w hS => ?_
 refine nil ?_
 refine ⟨fun _ => ⟨hS.at b4, hS.at b5⟩, ?_⟩
 refine awQ <| a_end (by kernel_rfl) <| cwQ <| wp_ret <| retQ (resV2 rfl (rc h4 isAgg32 sizeOf32 (hS.at _) rfl rfl) (rc h5 isAgg32 sizeOf32 (hS.at _) rfl rfl)) ?_
 exact ⟨_, _, rfl, hS.sub (.cons_cons _ (.cons_cons _ (List.nil_sublist _)))⟩
theorem c_choices {bk nn : Nat} {c : List Int} {many : Int} {asv : Option Addr} {csv : Nat} {w0 : World} : CE Tryz.prog 65 #[ptQ bk, .agg (chC c).toArray, .int .i64 (c.length : Int), .int .i64 many, .slice asv nn csv] w0 (fun u w' => ∃ i5 i6 i7 i8 i9, u = .func (.func 111) #[] [ptQ i7, ptQ i5, ptQ i8, ptQ i6, ptQ i9].toArray ∧ St w0 w' [blk i9 [.slice asv nn csv] 113, blk i8 [.int .i64 many] 3, blk i7 [.int .i64 (c.length : Int)] 3, blk i6 (chC c) 125, blk i5 [ptQ bk] 71]) := by
 refine enQ func65 rfl ntmps65 rfl fun hS => ?_
 refine seq <| region ?_
 refine sbox hS rfl rfl fun b5 w hS => ?_
 refine sbox hS rfl rfl fun b6 w hS => ?_
 refine sbox hS rfl rfl fun b7 w hS => ?_
 refine sbox hS rfl rfl fun b8 w hS => ?_
 refine sbox hS rfl rfl fun b9 w hS => ?_
 refine vA <| nil <| cwQ <| seq <| region <| sv (yFn (.cons rfl (.cons rfl e3))) <| vA <| nil <| cwQ <| wp_ret <| retQ (res1 rfl rfl) ?_
 exact ⟨b5, b6, b7, b8, b9, rfl, hS⟩
end Go.Proofs.YtchbdfcbogjhcaaGreatDoor
namespace Bx
open Go Go.RowKit
section
variable {P : Program} {ops : Array Oper} {Q : Exit → Act → World → Prop} {rest : List Oper} {n d : Nat} {f : Fr} {ds : List Deferred} {w : World} {r : Option Nat} {ty : TypeId} {pos : String} {af : Array Edge}
theorem yieldR {fx : Operand} {xs : List Operand} {ts : Array TypeId} {l : Nat} {vs : List Value} {R : Value → World → Prop} (hf : ev n f fx = .func (.yield l) #[] #[]) (ha : Evs (ev n f) xs vs) (hy : YieldIn P l vs w R)
    (h : ∀ v w', R v w' → wpListIn (FX r) 0 P ops Q rest (mkd n (upd f d v) ds) w') : wpListIn (FX r) 0 P ops Q (⟨some d, .call ⟨.value fx, xs.toArray, ts⟩, ty, pos, af, none⟩ :: rest) (mkd n f ds) w := by
  unfold wpListIn
  rw [if_pos (by simp [Region.wanted])]
  obtain ⟨fn, tmps, assign, body, hr, hR⟩ := hy
  refine ⟨fun _ _ => trivial, ?_⟩
  rw [Oper.semAt_plain (FX r) _ _ (noDefer_spec rfl), wD_eval, mk_eval, execOp_xop, yield_run hf ha hr, Oper.uponIn_round]
  refine ⟨fun h => (by cases h), ?_⟩
  have hR2 : RoundIn (FX r) (0 - 1) P l fn tmps assign body w fun e w' => ∃ v, e = .returned v ∧ R v w' := hR
  refine RoundIn.mono hR2 ?_
  rintro e w' ⟨v, rfl, hv⟩
  show wpListIn (FX r) 0 P ops Q rest ((wD ds (mk n f)).put (some d) v) w'
  rw [wD_put, mk_put]
  exact h v w' hv
end
theorem chmark {w0 w : World} {D : Nat} {x : Item} {L : List Item} (h : StX [] w0 w (x :: obj D (.deferred (some [])) :: L)) : StX [] w0 w (packI (marks [D]) :: x :: L) := by
 have h1 : StX [] w0 w (obj D (.deferred (some [])) :: x :: L) := h.perm (List.Perm.swap _ _ _)
 have h2 : StX [] w0 w (obj D (.deferred (some [])) :: packI (marks []) :: x :: L) := h1.mark0.perm (List.Perm.swap _ _ _)
 exact h2.mark
theorem chmarks {w0 w : World} {D : Nat} {Ds : List Nat} {y : Item} {L : List Item} (h : StX [] w0 w (obj D (.deferred (some [])) :: y :: packI (marks Ds) :: L)) : StX [] w0 w (packI (marks (D :: Ds)) :: L) := by
 have h1 : StX [] w0 w (obj D (.deferred (some [])) :: packI (marks Ds) :: L) := h.sub (.cons_cons _ (.cons _ (List.Sublist.refl _)))
 exact h1.mark
section
variable {t : Sgt} {cs : List Int}
theorem ch_trace {n k : Nat} {c : List Int} {many : Int} {s : List Span} {f : Fct} {A B X : List ChX} {x : ChX} (hm : ¬ (cs.getD c.length (-1) < 0 ∨ many = 0)) (hf : f = fct t.fcs (cs.getD c.length (-1)).toNat) (hk : k < f.members.length)
    (hA : A.map (·.1) = chS t cs n (c ++ [-1]) many s) (hB : B.map (·.1) = chM t cs n c many s f k) (hX : (X ++ [x]).map (·.1) <+: chS t cs n (c ++ [(k : Int)]) (many - 1) (meetS s (tubeS t f (mem f k)))) :
    ((A ++ (B ++ X)) ++ [x]).map (·.1) <+: chS t cs (n + 1) c many s := by
  rw [List.append_assoc, List.append_assoc, List.map_append, List.map_append, hA, hB, ch_more hm, ← hf]
  refine (List.prefix_append_right_inj _).2 ?_
  refine List.IsPrefix.trans ?_ (chM_pre (k := f.members.length) (show k + 1 ≤ f.members.length by omega))
  rw [chM_succ]
  exact (List.prefix_append_right_inj _).2 hX
theorem ch_whole {n : Nat} {c : List Int} {many : Int} {s : List Span} {f : Fct} {A B : List ChX} (hm : ¬ (cs.getD c.length (-1) < 0 ∨ many = 0)) (hf : f = fct t.fcs (cs.getD c.length (-1)).toNat)
    (hA : A.map (·.1) = chS t cs n (c ++ [-1]) many s) (hB : B.map (·.1) = chM t cs n c many s f f.members.length) : (A ++ B).map (·.1) = chS t cs (n + 1) c many s := by
  rw [List.map_append, hA, hB, ch_more hm, ← hf]
end
end Bx
namespace Go.Proofs.YtchbdfcbogjhcaaGreatDoor
open Go Bx Go.Proofs.Tryz
def ItCh (w0 : World) (t : Sgt) (now : Int) (cv ov : Value) (ag ak ae aw ax : Option Addr) (cg ck ce cw cx bk : Nat) (T : TypeId) (n : Nat) : Prop := ∀ (c : List Int) (many : Int) (sp : List Span) (asv : Option Addr) (csv i5 i6 i7 i8 i9 : Nat), c.length + n = t.ctrs.length → 0 ≤ many → many ≤ 4 → sp.length = t.ticks.toNat → LBd 40000000 sp → ItQ Tryz.prog 111 [ptQ i7, ptQ i5, ptQ i8, ptQ i6, ptQ i9] w0 [blk i9 [.slice asv t.ticks.toNat csv] 113, blk i8 [.int .i64 many] 3, blk i7 [.int .i64 ((c).length : Int)] 3, blk i6 (chC (c)) 125, blk i5 [ptQ bk] 71] encCh (RdC bk T (knQ t now cv ag ak ae cg ck ce aw cw ax cx ov) t now aw ax asv cw cx csv (sp)) (ChT (RdC bk T (knQ t now cv ag ak ae cg ck ce aw cw ax cx ov) t now aw ax asv cw cx csv (sp)) t.ticks.toNat (chS t (curS t now) n (c) (many) (sp))) (ChZ (chS t (curS t now) n (c) (many) (sp)))
theorem it_chstep {n : Nat} {t : Sgt} {now : Int} {cv ov : Value} {ag ak ae aw ax : Option Addr} {cg ck ce cw cx bk : Nat} {T : TypeId} {c : List Int} {many : Int} {sp : List Span} {asv : Option Addr} {csv i5 i6 i7 i8 i9 : Nat} {w0 : World} (h : RSgt w0 (scQ t cv ag ak ae cg ck ce) t) (hok : SgOk t) (hnow : Bd now 0 200000) (hg : Glb w0) (IH : ∀ m, n = m + 1 → ItCh w0 t now cv ov ag ak ae aw ax cg ck ce cw cx bk T m) (hcn : c.length + n = t.ctrs.length) (hm0 : 0 ≤ many) (hm4 : many ≤ 4) (hsl : sp.length = t.ticks.toNat) (hsb : LBd 40000000 sp) : ItQ Tryz.prog 111 [ptQ i7, ptQ i5, ptQ i8, ptQ i6, ptQ i9] w0 [blk i9 [.slice asv t.ticks.toNat csv] 113, blk i8 [.int .i64 many] 3, blk i7 [.int .i64 ((c).length : Int)] 3, blk i6 (chC (c)) 125, blk i5 [ptQ bk] 71] encCh (RdC bk T (knQ t now cv ag ak ae cg ck ce aw cw ax cx ov) t now aw ax asv cw cx csv (sp)) (ChT (RdC bk T (knQ t now cv ag ak ae cg ck ce aw cw ax cx ov) t now aw ax asv cw cx csv (sp)) t.ticks.toNat (chS t (curS t now) n (c) (many) (sp))) (ChZ (chS t (curS t now) n (c) (many) (sp))) := by
 obtain ⟨hT, hG, hw64, hf64, hk64, hC, hF, hl64, hm64, hr64, hq64⟩ := RSgt.parts h
 have htk := hok.tk
 have hnc := hok.nc
 have hc4 : c.length ≤ 4 := by omega
 intro yl Cb w L hRd hY h0 hS
 replace hS : StX [] w0 w (blk i9 [.slice asv t.ticks.toNat csv] 113 :: blk i8 [.int .i64 many] 3 :: blk i7 [.int .i64 (c.length : Int)] 3 :: blk i6 (chC c) 125 :: blk i5 [ptQ bk] 71 :: L) := hS
 refine enterX func111 rfl ntmps111 rfl ?_
 skip
 refine seqX <| regionX rfl ?_
 refine sbox hS rfl rfl ?_; clear hS; intro b6 w hS
 refine nil <| cxQ <| seqX <| seqX <| region_drawX mixed (by kernel_rfl) rfl hS ?_
 have hcb := h0
 have rd : ∀ w, StX [] w0 w (blk b6 [.func (.yield yl) #[] #[]] 222 :: blk i9 [.slice asv t.ticks.toNat csv] 113 :: blk i8 [.int .i64 many] 3 :: blk i7 [.int .i64 (c.length : Int)] 3 :: blk i6 (chC (c)) 125 :: blk i5 [ptQ bk] 71 :: L) → RdC bk T (knQ t now cv ag ak ae cg ck ce aw cw ax cx ov) t now aw ax asv cw cx csv (sp) w := fun w hS => hRd _ w L [blk b6 [.func (.yield yl) #[] #[]] 222, blk i9 [.slice asv t.ticks.toNat csv] 113, blk i8 [.int .i64 many] 3, blk i7 [.int .i64 (c.length : Int)] 3, blk i6 (chC (c)) 125, blk i5 [ptQ bk] 71] hcb hS
 refine qv (fun w hS => yLdB rfl isAgg3 (hS.at _) rfl) <| qv (fun w hS => yLdB rfl isAgg71 (hS.at _) rfl) <| qv (fun w hS => yNil rfl) <| qv (fun w hS => fa115_3 rfl) <| qv (fun w hS => yLdB rfl isAgg30 (rd w hS).1 rfl) <| qv (fun w hS => yLen rfl underlying30) <| qv (fun w hS => yEql rfl rfl) ?_
 clear hS; refine qnil (fun w hS => ?_)
 refine cxQ ?_
 refine condX rfl (fun c20 => ?_) (fun c20 => ?_)
 ·
  simp only [BS, ne_eq] at c20
  obtain rfl : n = 0 := by omega
  refine seqX <| seqX <| regionX rfl <| vL rfl isAgg3 hS rfl <| sv (yEql rfl rfl) <| nil <| cxQ ?_
  refine condX rfl (fun c22 => ?_) (fun c22 => ?_)
  ·
   simp only [BS, ne_eq] at c22
   have hcz : many = 0 := by omega
   refine regionL <| preX 3 rfl <| vL rfl isAgg222 hS rfl <| sv (yLdBA rfl isAgg125 sizeOf125 (hS.at _) rfl rfl) <| vL rfl isAgg113 hS rfl <| nil ?_
   show wpListIn _ _ _ _ _ _ _ _
   refine yieldU rfl e2 (hY [] ((c, sp), .slice asv t.ticks.toNat csv) w L [blk b6 [.func (.yield yl) #[] #[]] 222, blk i9 [.slice asv t.ticks.toNat csv] 113, blk i8 [.int .i64 many] 3, blk i7 [.int .i64 (c.length : Int)] 3, blk i6 (chC (c)) 125, blk i5 [ptQ bk] 71] (ChT.mk (by simp [ch_zero, hcz]) ⟨_, _, rfl⟩ (fun w hw hr => hr.2.2.2)) h0 hS) ?_
   clear hS hcb rd; rintro _ w ⟨bq, L, rfl, hcb, hS⟩
   refine endX rfl <| nil <| cxQ ?_
   refine wpIn_ret (thenR ?_)
   refine leafX (results_none rfl _ _ _) ?_
   refine ⟨L, hS.sub (.cons _ (.cons _ (.cons _ (.cons _ (.cons _ (.cons _ lrQ)))))), ?_⟩
   cases bq with
   | true => exact .inl ⟨_, by simp [ChZ, ch_zero, hcz], hcb⟩
   | false => exact .inr ⟨_, hcb⟩
  simp only [BS, ne_eq] at c22
  have hcz : ¬ many = 0 := by omega
  refine skipX <| cxQ ?_
  refine wpIn_ret (thenR ?_)
  refine leafX (results_none rfl _ _ _) ?_
  exact ⟨L, hS.sub (.cons _ (.cons _ (.cons _ (.cons _ (.cons _ (.cons _ lrQ)))))), .inl ⟨[], by simp [ChZ, ch_zero, hcz], h0⟩⟩
 simp only [BS, ne_eq] at c20
 obtain ⟨m, rfl⟩ : ∃ m, n = m + 1 := ⟨n - 1, by omega⟩
 have hcl : c.length < t.ctrs.length := by omega
 refine skipX <| cxQ <| seqX <| regionX rfl <| vL rfl isAgg3 hS rfl <| sv (Y.to (yIxA rfl rfl runUnderlying125 sizeOf3 (by omega) (by omega)) (congrArg (fun q => Value.pointer (some ⟨i6, q, none⟩)) (show 0 + ((c.length : Nat) : Int).toNat * 1 = c.length by omega))) ?_
 refine sst (vs := [.int .i64 (-1)]) hS rfl rfl sizeOf3 rfl rfl (by rw [Nat.ble_eq]; show c.length + 1 ≤ 4; omega) rfl ?_; clear hS; intro w hS; rw [chC_set (-1) c (by omega)] at hS
 refine nil <| cxQ <| seqX <| seqX <| regionX rfl <| vL rfl isAgg71 hS rfl <| sv (yLdBA rfl isAgg125 sizeOf125 (hS.at _) rfl rfl) <| vL rfl isAgg3 hS rfl <| sv (Y.to (yAddQ rfl rfl) (congrArg (Value.int .i64) (show (c.length : Int) + 1 = (((c ++ [-1]).length : Nat) : Int) by simp))) <| vL rfl isAgg3 hS rfl <| vL rfl isAgg113 hS rfl ?_
 refine scall call65 (.cons rfl (.cons rfl e3)) (c_choices (c := c ++ [-1]) (nn := t.ticks.toNat)) ?_
 rintro _ w ⟨j5, j6, j7, j8, j9, rfl, hM⟩; replace hS := hS.call hM; clear hM
 refine nil <| cxQ <| blockX ?_
 refine rangeQ (R := [blk j9 [.slice asv t.ticks.toNat csv] 113, blk j8 [.int .i64 many] 3, blk j7 [.int .i64 ((c ++ [-1]).length : Int)] 3, blk j6 (chC (c ++ [-1])) 125, blk j5 [ptQ bk] 71]) (L0 := blk b6 [.func (.yield yl) #[] #[]] 222 :: blk i9 [.slice asv t.ticks.toNat csv] 113 :: blk i8 [.int .i64 many] 3 :: blk i7 [.int .i64 (c.length : Int)] 3 :: blk i6 (chC (c ++ [-1])) 125 :: blk i5 [ptQ bk] 71 :: L) (ps := [36, 37]) rfl call111 hS (IH m rfl (c ++ [-1]) many sp asv csv j5 j6 j7 j8 j9 (by simp; omega) (by omega) (by omega) hsl hsb) (fun cc pre L => (cc = none ∧ ∃ L2, L = blk b6 [.func (.yield yl) #[] #[]] 222 :: blk i9 [.slice asv t.ticks.toNat csv] 113 :: blk i8 [.int .i64 many] 3 :: blk i7 [.int .i64 (c.length : Int)] 3 :: blk i6 (chC (c ++ [-1])) 125 :: blk i5 [ptQ bk] 71 :: L2 ∧ Cb true pre L2) ∨ (cc = some .ret ∧ ∃ L2, L = blk b6 [.func (.yield yl) #[] #[]] 222 :: blk i9 [.slice asv t.ticks.toNat csv] 113 :: blk i8 [.int .i64 many] 3 :: blk i7 [.int .i64 (c.length : Int)] 3 :: blk i6 (chC (c ++ [-1])) 125 :: blk i5 [ptQ bk] 71 :: L2 ∧ Cb false pre L2)) (.inl ⟨rfl, L, rfl, h0⟩) (fun _ => rfl) (fun pre w L M hcb2 hS => by
  obtain ⟨-, L2, rfl, hcb3⟩ := hcb2.resolve_right (fun h => by cases h.1)
  exact hRd _ w L2 [blk b6 [.func (.yield yl) #[] #[]] 222, blk i9 [.slice asv t.ticks.toNat csv] 113, blk i8 [.int .i64 many] 3, blk i7 [.int .i64 (c.length : Int)] 3, blk i6 (chC (c ++ [-1])) 125, blk i5 [ptQ bk] 71] hcb3 (hS.sub (List.sublist_append_left _ M))) ?_ ?_ ?_
 ·
  clear hS
  intro yl2 pre x w L M M0 hT hsub hcb2 hS
  obtain ⟨-, L2, rfl, hcb⟩ := hcb2.resolve_right (fun h => by cases h.1)
  obtain ⟨hTp, hTs, hTl⟩ := hT.last
  obtain ⟨⟨xc, xs2⟩, xv⟩ := x
  obtain ⟨axv, cxv, hxv⟩ := hTs
  obtain rfl : xv = _ := hxv
  try dsimp only [caQ, naQ] at hS
  refine seqX <| regionX rfl ?_
  refine salloc hS zeroValue125 rfl ?_; clear hS; intro b7 w hS
  refine sS hS rfl sizeOf125 ?_; clear hS; intro w hS
  refine nil <| cxQ <| regionX rfl <| vA <| nil ?_
  refine ⟨_, blk b7 (chC xc) 125 :: blk b6 [.func (.yield yl) #[] #[]] 222 :: blk i9 [.slice asv t.ticks.toNat csv] 113 :: blk i8 [.int .i64 many] 3 :: blk i7 [.int .i64 (c.length : Int)] 3 :: blk i6 (chC (c ++ [-1])) 125 :: blk i5 [ptQ bk] 71 :: L2, rfl, hS, ?_⟩
  clear hS hsub; clear M; intro M w hsub hS; try dsimp only [caQ, naQ] at hS
  refine blockX <| seqX <| regionL <| preX 3 rfl <| vL rfl isAgg222 hS rfl <| sv (yLdBA rfl isAgg125 sizeOf125 (hS.at _) rfl rfl) <| vM <| nil ?_
  show wpListIn _ _ _ _ _ _ _ _
  replace hS := hS.perm (perm_mid [blk b7 (chC xc) 125, blk b6 [.func (.yield yl) #[] #[]] 222, blk i9 [.slice asv t.ticks.toNat csv] 113, blk i8 [.int .i64 many] 3, blk i7 [.int .i64 (c.length : Int)] 3, blk i6 (chC (c ++ [-1])) 125, blk i5 [ptQ bk] 71] L2 M)
  refine yieldR rfl e2 (hY (pre) ((xc, xs2), .slice axv t.ticks.toNat cxv) _ L2 ([blk b7 (chC xc) 125, blk b6 [.func (.yield yl) #[] #[]] 222, blk i9 [.slice asv t.ticks.toNat csv] 113, blk i8 [.int .i64 many] 3, blk i7 [.int .i64 (c.length : Int)] 3, blk i6 (chC (c ++ [-1])) 125, blk i5 [ptQ bk] 71] ++ M) (ChT.mk (by exact hTp.trans ch_first) ⟨_, _, rfl⟩ (fun w hw hr => hTl w (fun it hit => hw it (List.mem_append_right _ (hsub it hit))) hr)) hcb hS) ?_
  clear hS hcb; rintro _ w ⟨bq, L3, rfl, hcb, hS⟩
  replace hS : StX [] w0 w (blk b7 (chC xc) 125 :: blk b6 [.func (.yield yl) #[] #[]] 222 :: blk i9 [.slice asv t.ticks.toNat csv] 113 :: blk i8 [.int .i64 many] 3 :: blk i7 [.int .i64 (c.length : Int)] 3 :: blk i6 (chC (c ++ [-1])) 125 :: blk i5 [ptQ bk] 71 :: (L3 ++ M)) := hS.perm (perm_mid [blk b7 (chC xc) 125, blk b6 [.func (.yield yl) #[] #[]] 222, blk i9 [.slice asv t.ticks.toNat csv] 113, blk i8 [.int .i64 many] 3, blk i7 [.int .i64 (c.length : Int)] 3, blk i6 (chC (c ++ [-1])) 125, blk i5 [ptQ bk] 71] L3 M).symm
  refine endX rfl <| sv (yNot rfl) <| nil <| cxQ ?_
  refine condX rfl (fun c42 => ?_) (fun c42 => ?_)
  ·
   obtain rfl : bq = false := by cases bq; rfl; cases c42
   refine wpIn_ret (blockR ?_)
   exact ⟨_, (.inr ⟨rfl, L3, rfl, hcb⟩), hS.sub (.cons _ lrQ)⟩
  obtain rfl : bq = true := by cases bq; cases c42; rfl
  refine skipX ?_
  exact ⟨_, (.inl ⟨rfl, L3, rfl, hcb⟩), (hS.sub (.cons _ lrQ))⟩
 ·
  clear hS
  intro D w L xs hZ hcb hS
  have hcb0 := hcb.resolve_right (fun h => by cases h.1)
  clear hcb h0
  obtain ⟨-, L2, rfl, hcb⟩ := hcb0
  try dsimp only [caQ, naQ] at hS
  refine cxQ <| seqX <| seqX <| region_drawX mixed (by kernel_rfl) rfl hS ?_
  have rd : ∀ w, StX [] w0 w (obj D (.deferred (some [])) :: blk b6 [.func (.yield yl) #[] #[]] 222 :: blk i9 [.slice asv t.ticks.toNat csv] 113 :: blk i8 [.int .i64 many] 3 :: blk i7 [.int .i64 (c.length : Int)] 3 :: blk i6 (chC (c ++ [-1])) 125 :: blk i5 [ptQ bk] 71 :: L2) → RdC bk T (knQ t now cv ag ak ae cg ck ce aw cw ax cx ov) t now aw ax asv cw cx csv (sp) w := fun w hS => hRd _ w L2 [obj D (.deferred (some [])), blk b6 [.func (.yield yl) #[] #[]] 222, blk i9 [.slice asv t.ticks.toNat csv] 113, blk i8 [.int .i64 many] 3, blk i7 [.int .i64 (c.length : Int)] 3, blk i6 (chC (c ++ [-1])) 125, blk i5 [ptQ bk] 71] hcb hS
  have hcx := curS_get t now hcl
  obtain ⟨bq, oq, cq, haq, -, -, -, -⟩ := sl_at (rd w hS).2.2.1 hcx
  subst haq
  have hz1 := hZ
  refine qv (fun w hS => yLdB rfl isAgg71 (hS.at _) rfl) <| qv (fun w hS => yNil rfl) <| qv (fun w hS => fa115_3 rfl) <| qv (fun w hS => yLdB rfl isAgg30 (rd w hS).1 rfl) <| qv (fun w hS => yLdB rfl isAgg3 (hS.at _) rfl) <| qv (fun w hS => yIxQ rfl rfl rfl runUnderlying30 sizeOf3) <| qv (fun w hS => yLd rfl isAgg3 (sl_cell (rd w hS).2.2.1 hcx)) <| qv (fun w hS => yLss rfl rfl) <| qv (fun w hS => yMove rfl) ?_
  refine qg rfl rfl rfl (fun g w hS => (yLdB rfl isAgg3 (hS.at _) rfl)) (fun v52 g52 => ?_)
  refine qg rfl rfl rfl (fun g w hS => (yEql (g52.1 g) rfl)) (fun v53 g53 => ?_)
  refine qv (fun w hS => yOr rfl rfl (fun hB => (g53.1 hB))) ?_
  clear hS; refine qnil (fun w hS => ?_)
  refine cxQ ?_
  refine condX rfl (fun c54 => ?_) (fun c54 => ?_)
  ·
   simp only [BS, ne_eq] at c54
   have hskip : (curS t now).getD c.length (-1) < 0 ∨ many = 0 := by rw [cur_at hcl]; exact c54
   refine wpIn_ret (thenR ?_)
   refine leafD hS (fun w hS => results_none rfl _ _ _) (fun w hS => ?_)
   exact ⟨L2, hS.sub (.cons _ (.cons _ (.cons _ (.cons _ (.cons _ (.cons _ (.cons _ lrQ))))))), .inl ⟨_, by unfold ChZ at *; rw [ch_skip hskip]; exact hz1, hcb⟩⟩
  simp only [BS, ne_eq] at c54
  have hmore : ¬ ((curS t now).getD c.length (-1) < 0 ∨ many = 0) := by rw [cur_at hcl]; omega
  obtain ⟨hcf, hfo⟩ := cur_fct (now := now) (i := c.length) hok (by omega)
  obtain ⟨bf, of, csf, haf, -, hcf2, hRf, -⟩ := sl_at hF (fct_get hcf)
  obtain ⟨mv, rfl, hf1, hf2, hf3, hMm⟩ := id hRf
  obtain ⟨am, cm, rfl, hmcap, hmmx, -⟩ := id hMm
  have hnm := hfo.nm
  refine skipX <| cxQ <| seqX <| region_anyX (C := (fun w => StX [] w0 w (obj D (.deferred (some [])) :: blk b6 [.func (.yield yl) #[] #[]] 222 :: blk i9 [.slice asv t.ticks.toNat csv] 113 :: blk i8 [.int .i64 many] 3 :: blk i7 [.int .i64 (c.length : Int)] 3 :: blk i6 (chC (c ++ [-1])) 125 :: blk i5 [ptQ bk] 71 :: L2))) mixed 14 16 (by kernel_rfl) rfl hS (fun _ h => h) ?_
  clear hS; intro w hS
  refine hv (fun w hS => yLdB rfl isAgg71 (hS.at _) rfl) <| hv (fun w hS => yNil rfl) <| hv (fun w hS => fa115_0 rfl) <| hv (fun w hS => fa29_6 rfl) <| hv (fun w hS => yLdB rfl isAgg27 (rd w hS).1 rfl) <| hv (fun w hS => yLdB rfl isAgg71 (hS.at _) rfl) <| hv (fun w hS => yNil rfl) <| hv (fun w hS => fa115_3 rfl) <| hv (fun w hS => yLdB rfl isAgg30 (rd w hS).1 rfl) <| hv (fun w hS => yLdB rfl isAgg3 (hS.at _) rfl) <| hv (fun w hS => yIxQ rfl rfl rfl runUnderlying30 sizeOf3) <| hv (fun w hS => yLd rfl isAgg3 (sl_cell (rd w hS).2.2.1 hcx)) <| hv (fun w hS => yIxQ rfl haf (rfl.trans (congrArg (Value.int .i64) (show curOf t now c.length = (((curOf t now c.length).toNat : Nat) : Int) by omega))) runUnderlying27 sizeOf121) ?_
  refine hv (fun w hS => yLdA rfl isAgg121 sizeOf121 (hcf2.ext hS.ext) rfl) <| hnil <| awQ <| a1Q 14 rfl ?_
  refine salloc hS zeroValue121 rfl ?_; clear hS; intro b9 w hS
  refine nil ?_
  refine ⟨fun _ => hS.sub (.cons _ lrQ), ?_⟩
  refine awQ <| a1Q 15 rfl ?_
  refine sS hS rfl sizeOf121 ?_; clear hS; intro w hS
  refine nil ?_
  refine ⟨fun _ => hS.sub (.cons _ lrQ), ?_⟩
  refine awQ <| a_end (by kernel_rfl) <| cxQ <| seqX <| regionX rfl <| sv (fa121_3 rfl) <| vL rfl isAgg119 hS rfl <| sv (yLen rfl underlying119) <| vM <| nil <| cxQ <| blockX ?_
  refine loopM (fun f ds w zz => ∃ (Ds : List Nat), ∃ (k : Nat) (v : Int) (prk : List ChX) (L : List Bx.Item), ds = Ds.map coll ∧ f 1 = ptQ i7 ∧ f 2 = ptQ i5 ∧ f 3 = ptQ i8 ∧ f 4 = ptQ i6 ∧ f 5 = ptQ i9 ∧ f 6 = ptQ b6 ∧ f 9 = ptQ b9 ∧ f 70 = .slice am (fct t.fcs (curOf t now c.length).toNat).members.length cm ∧ f 71 = .int .i64 ((fct t.fcs (curOf t now c.length).toNat).members.length : Int) ∧ f 72 = .int .i64 (k : Int) ∧ StX [] w0 w (packI (marks Ds) :: blk b9 [.int .i64 (fct t.fcs (curOf t now c.length).toNat).centre, .int .i64 (fct t.fcs (curOf t now c.length).toNat).issued, .int .i64 (fct t.fcs (curOf t now c.length).toNat).frm, .slice am (fct t.fcs (curOf t now c.length).toNat).members.length cm] 121 :: blk b6 [.func (.yield yl) #[] #[]] 222 :: blk i9 [.slice asv t.ticks.toNat csv] 113 :: blk i8 [.int .i64 many] 3 :: blk i7 [.int .i64 (c.length : Int)] 3 :: blk i6 (chC (c ++ [v])) 125 :: blk i5 [ptQ bk] 71 :: L) ∧ (k ≤ (fct t.fcs (curOf t now c.length).toNat).members.length) ∧ (Cb true (xs ++ prk) L) ∧ (prk.map (·.1) = chM t (curS t now) m c many sp (fct t.fcs (curOf t now c.length).toNat) k) ∧ zz = (fct t.fcs (curOf t now c.length).toNat).members.length - k) _ ⟨_, _, rfl, [D], 0, -1, [], L2, rfl, rfl, rfl, rfl, rfl, rfl, rfl, rfl, rfl, rfl, rfl, (chmark hS), (Nat.zero_le _), (by rw [List.append_nil]; exact hcb), (rfl), rfl⟩ ?_
  clear hS
  rintro f _ w _ ⟨Ds, k, v, prk, L, rfl, h1, h2, h3, h4, h5, h6, h9, h70, h71, h72, hS, hk, hcb, hzk, rfl⟩
  clear rd
  have rd : ∀ w, StX [] w0 w (packI (marks Ds) :: blk b9 [.int .i64 (fct t.fcs (curOf t now c.length).toNat).centre, .int .i64 (fct t.fcs (curOf t now c.length).toNat).issued, .int .i64 (fct t.fcs (curOf t now c.length).toNat).frm, .slice am (fct t.fcs (curOf t now c.length).toNat).members.length cm] 121 :: blk b6 [.func (.yield yl) #[] #[]] 222 :: blk i9 [.slice asv t.ticks.toNat csv] 113 :: blk i8 [.int .i64 many] 3 :: blk i7 [.int .i64 (c.length : Int)] 3 :: blk i6 (chC (c ++ [v])) 125 :: blk i5 [ptQ bk] 71 :: L) → RdC bk T [.int .i64 t.table.mean, cv, .slice ag t.gauges.length cg, .int .i64 t.wrong, .int .i64 t.frm, .int .i64 t.ticks, .slice ak t.ctrs.length ck, .slice ae t.fcs.length ce, .int .i64 t.least, .int .i64 t.most, .int .i64 t.rate, .int .i64 t.quorum, .int .i64 now, .slice aw t.ticks.toNat cw, .slice (some ⟨bq, oq, none⟩) t.ctrs.length cx, ov] t now aw (some ⟨bq, oq, none⟩) asv cw cx csv (sp) w := fun w hS => hRd _ w L [packI (marks Ds), blk b9 [.int .i64 (fct t.fcs (curOf t now c.length).toNat).centre, .int .i64 (fct t.fcs (curOf t now c.length).toNat).issued, .int .i64 (fct t.fcs (curOf t now c.length).toNat).frm, .slice am (fct t.fcs (curOf t now c.length).toNat).members.length cm] 121, blk b6 [.func (.yield yl) #[] #[]] 222, blk i9 [.slice asv t.ticks.toNat csv] 113, blk i8 [.int .i64 many] 3, blk i7 [.int .i64 (c.length : Int)] 3, blk i6 (chC (c ++ [v])) 125, blk i5 [ptQ bk] 71] hcb hS
  refine seqX <| regionX rfl <| sv (yLss h72 h71) <| nil <| cxQ <| seqX ?_
  refine condX rfl (fun c73 => ?_) (fun c73 => ?_)
  ·
   simp only [BS, ne_eq] at c73
   have hkl : k < (fct t.fcs (curOf t now c.length).toNat).members.length := by omega
   refine skipX <| cxQ <| seqX <| blockX <| seqX <| regionX rfl <| sv (yMove h72) <| vA <| nil <| cxQ <| seqX <| regionX rfl <| sv (yLdB h1 isAgg3 (hS.at _) rfl) ?_
   refine vM <| sv (Y.to (yIxA h4 rfl runUnderlying125 sizeOf3 (by omega) (by omega)) (congrArg (fun q => Value.pointer (some ⟨i6, q, none⟩)) (show 0 + ((c.length : Nat) : Int).toNat * 1 = c.length by omega))) ?_
   refine sst (vs := [.int .i64 (k : Int)]) hS rfl rfl sizeOf3 rfl rfl (by rw [Nat.ble_eq]; show c.length + 1 ≤ 4; omega) rfl ?_; clear hS; intro w hS; rw [chC_set2 v (k : Int) c (by omega)] at hS
   clear rd
   have rd : ∀ w A, (∀ it ∈ A, True) → StX [] w0 w (A ++ (packI (marks Ds) :: blk b9 [.int .i64 (fct t.fcs (curOf t now c.length).toNat).centre, .int .i64 (fct t.fcs (curOf t now c.length).toNat).issued, .int .i64 (fct t.fcs (curOf t now c.length).toNat).frm, .slice am (fct t.fcs (curOf t now c.length).toNat).members.length cm] 121 :: blk b6 [.func (.yield yl) #[] #[]] 222 :: blk i9 [.slice asv t.ticks.toNat csv] 113 :: blk i8 [.int .i64 many] 3 :: blk i7 [.int .i64 (c.length : Int)] 3 :: blk i6 (chC (c ++ [(k : Int)])) 125 :: blk i5 [ptQ bk] 71 :: L)) → RdC bk T [.int .i64 t.table.mean, cv, .slice ag t.gauges.length cg, .int .i64 t.wrong, .int .i64 t.frm, .int .i64 t.ticks, .slice ak t.ctrs.length ck, .slice ae t.fcs.length ce, .int .i64 t.least, .int .i64 t.most, .int .i64 t.rate, .int .i64 t.quorum, .int .i64 now, .slice aw t.ticks.toNat cw, .slice (some ⟨bq, oq, none⟩) t.ctrs.length cx, ov] t now aw (some ⟨bq, oq, none⟩) asv cw cx csv (sp) w := fun w A _ hS => hRd _ w L (A ++ [packI (marks Ds), blk b9 [.int .i64 (fct t.fcs (curOf t now c.length).toNat).centre, .int .i64 (fct t.fcs (curOf t now c.length).toNat).issued, .int .i64 (fct t.fcs (curOf t now c.length).toNat).frm, .slice am (fct t.fcs (curOf t now c.length).toNat).members.length cm] 121, blk b6 [.func (.yield yl) #[] #[]] 222, blk i9 [.slice asv t.ticks.toNat csv] 113, blk i8 [.int .i64 many] 3, blk i7 [.int .i64 (c.length : Int)] 3, blk i6 (chC (c ++ [(k : Int)])) 125, blk i5 [ptQ bk] 71]) hcb (by rw [List.append_assoc]; exact hS)
   refine nil <| cxQ <| seqX <| regionX rfl <| sv (yLdB h5 isAgg113 (hS.at _) rfl) ?_
   refine scall call66 e1 (c_CloneS (rd w [] (fun _ h => nomatch h) hS).2.2.2 hsl (by omega)) ?_
   rintro lv w hM; replace hS := hS.call1 hM; clear hM
   obtain ⟨gl, cl, rfl, -⟩ := row_some (hS.row lv) (by omega)
   refine vA <| nil <| cxQ <| seqX <| regionX rfl <| vM <| sv (yLdB h2 isAgg71 (hS.at _) rfl) <| sv (yLdBA h9 isAgg121 sizeOf121 (hS.at _) rfl rfl) <| vM ?_
   refine scall call81 e3 (c_tubeS ((rd w [_] (fun _ _ => trivial) hS).kn (RTable.stays _ _ _ _ hS.ext hT) (hG.ext RGauge.stays hS.ext) (hC.ext RCtr.stays hS.ext) (hF.ext RFct.stays hS.ext)) hok (hg.ext hS.ext) hfo hkl (hMm.ext RRow.stays hS.ext)) ?_
   rintro tv w hM; replace hS := hS.call1 hM; clear hM
   have htl := tubeS_lbd hok hfo hkl
   refine scall call79 e2 (c_meetS (o := 0) (ss := sp) (os := tubeS t (fct t.fcs (curOf t now c.length).toNat) (mem (fct t.fcs (curOf t now c.length).toNat) k)) (hS.perm (List.Perm.swap _ _ _)) (fun q w2 h2 => sl_spans (h2.row tv) (tubeS_len ..) (lbd_i64 htl)) (by rw [tubeS_len]; exact Nat.le_refl _) hsl (by omega) (by omega)) ?_
   clear hS; rintro _ w ⟨-, hS⟩
   rw [meetK_all (by rw [hsl, tubeS_len])] at hS
   replace hS := hS.sub (.cons_cons _ (.cons _ lrQ))
   have hll : (meetS sp (tubeS t (fct t.fcs (curOf t now c.length).toNat) (mem (fct t.fcs (curOf t now c.length).toNat) k))).length = t.ticks.toNat := by rw [meetS_len (by rw [hsl, tubeS_len])]; exact hsl
   have hlb : LBd 40000000 (meetS sp (tubeS t (fct t.fcs (curOf t now c.length).toNat) (mem (fct t.fcs (curOf t now c.length).toNat) k))) := meet_sbd (by rw [hsl, tubeS_len]) hsb htl
   refine nil <| cxQ <| seqX <| regionX rfl <| sv (yLdB h2 isAgg71 (hS.at _) rfl) <| sv (yLdBA h4 isAgg125 sizeOf125 (hS.at _) rfl rfl) <| sv (yLdB h1 isAgg3 (hS.at _) rfl) <| sv (Y.to (yAddQ rfl rfl) (congrArg (Value.int .i64) (show (c.length : Int) + 1 = (((c ++ [(k : Int)]).length : Nat) : Int) by simp))) <| sv (yLdB h3 isAgg3 (hS.at _) rfl) <| sv (ySubQ rfl rfl) <| vM ?_
   refine scall call65 (.cons rfl (.cons rfl e3)) (c_choices (c := c ++ [(k : Int)]) (nn := t.ticks.toNat)) ?_
   rintro _ w ⟨j5, j6, j7, j8, j9, rfl, hM⟩; replace hS := hS.call hM; clear hM
   refine nil <| cxQ <| blockX ?_
   refine rangeQ (R := [blk j9 [.slice (some ⟨gl, 0, none⟩) t.ticks.toNat cl] 113, blk j8 [.int .i64 (many - 1)] 3, blk j7 [.int .i64 ((c ++ [(k : Int)]).length : Int)] 3, blk j6 (chC (c ++ [(k : Int)])) 125, blk j5 [ptQ bk] 71]) (L0 := rowI (.slice (some ⟨gl, 0, none⟩) t.ticks.toNat cl) 69 2 t.ticks.toNat ((meetS sp (tubeS t (fct t.fcs (curOf t now c.length).toNat) (mem (fct t.fcs (curOf t now c.length).toNat) k))).flatMap spanC) :: packI (marks Ds) :: blk b9 [.int .i64 (fct t.fcs (curOf t now c.length).toNat).centre, .int .i64 (fct t.fcs (curOf t now c.length).toNat).issued, .int .i64 (fct t.fcs (curOf t now c.length).toNat).frm, .slice am (fct t.fcs (curOf t now c.length).toNat).members.length cm] 121 :: blk b6 [.func (.yield yl) #[] #[]] 222 :: blk i9 [.slice asv t.ticks.toNat csv] 113 :: blk i8 [.int .i64 many] 3 :: blk i7 [.int .i64 (c.length : Int)] 3 :: blk i6 (chC (c ++ [(k : Int)])) 125 :: blk i5 [ptQ bk] 71 :: L) (ps := [94, 95]) rfl call111 hS (IH m rfl (c ++ [(k : Int)]) (many - 1) (meetS sp (tubeS t (fct t.fcs (curOf t now c.length).toNat) (mem (fct t.fcs (curOf t now c.length).toNat) k))) (some ⟨gl, 0, none⟩) cl j5 j6 j7 j8 j9 (by simp; omega) (by omega) (by omega) hll hlb) (fun cc pre L => (cc = none ∧ ∃ L2, L = rowI (.slice (some ⟨gl, 0, none⟩) t.ticks.toNat cl) 69 2 t.ticks.toNat ((meetS sp (tubeS t (fct t.fcs (curOf t now c.length).toNat) (mem (fct t.fcs (curOf t now c.length).toNat) k))).flatMap spanC) :: packI (marks Ds) :: blk b9 [.int .i64 (fct t.fcs (curOf t now c.length).toNat).centre, .int .i64 (fct t.fcs (curOf t now c.length).toNat).issued, .int .i64 (fct t.fcs (curOf t now c.length).toNat).frm, .slice am (fct t.fcs (curOf t now c.length).toNat).members.length cm] 121 :: blk b6 [.func (.yield yl) #[] #[]] 222 :: blk i9 [.slice asv t.ticks.toNat csv] 113 :: blk i8 [.int .i64 many] 3 :: blk i7 [.int .i64 (c.length : Int)] 3 :: blk i6 (chC (c ++ [(k : Int)])) 125 :: blk i5 [ptQ bk] 71 :: L2 ∧ Cb true (xs ++ (prk ++ pre)) L2) ∨ (cc = some .ret ∧ ∃ L2, L = rowI (.slice (some ⟨gl, 0, none⟩) t.ticks.toNat cl) 69 2 t.ticks.toNat ((meetS sp (tubeS t (fct t.fcs (curOf t now c.length).toNat) (mem (fct t.fcs (curOf t now c.length).toNat) k))).flatMap spanC) :: packI (marks Ds) :: blk b9 [.int .i64 (fct t.fcs (curOf t now c.length).toNat).centre, .int .i64 (fct t.fcs (curOf t now c.length).toNat).issued, .int .i64 (fct t.fcs (curOf t now c.length).toNat).frm, .slice am (fct t.fcs (curOf t now c.length).toNat).members.length cm] 121 :: blk b6 [.func (.yield yl) #[] #[]] 222 :: blk i9 [.slice asv t.ticks.toNat csv] 113 :: blk i8 [.int .i64 many] 3 :: blk i7 [.int .i64 (c.length : Int)] 3 :: blk i6 (chC (c ++ [(k : Int)])) 125 :: blk i5 [ptQ bk] 71 :: L2 ∧ Cb false (xs ++ (prk ++ pre)) L2)) (.inl ⟨rfl, L, rfl, by rw [List.append_nil]; exact hcb⟩) (fun _ => rfl) (fun pre w L M hcb2 hS => by
    obtain ⟨-, L2, rfl, hcb3⟩ := hcb2.resolve_right (fun h => by cases h.1)
    have hr := hRd _ w L2 [rowI (.slice (some ⟨gl, 0, none⟩) t.ticks.toNat cl) 69 2 t.ticks.toNat ((meetS sp (tubeS t (fct t.fcs (curOf t now c.length).toNat) (mem (fct t.fcs (curOf t now c.length).toNat) k))).flatMap spanC), packI (marks Ds), blk b9 [.int .i64 (fct t.fcs (curOf t now c.length).toNat).centre, .int .i64 (fct t.fcs (curOf t now c.length).toNat).issued, .int .i64 (fct t.fcs (curOf t now c.length).toNat).frm, .slice am (fct t.fcs (curOf t now c.length).toNat).members.length cm] 121, blk b6 [.func (.yield yl) #[] #[]] 222, blk i9 [.slice asv t.ticks.toNat csv] 113, blk i8 [.int .i64 many] 3, blk i7 [.int .i64 (c.length : Int)] 3, blk i6 (chC (c ++ [(k : Int)])) 125, blk i5 [ptQ bk] 71] hcb3 (hS.sub (List.sublist_append_left _ M))
    exact ⟨hr.1, hr.2.1, hr.2.2.1, sl_spans ((hS.sub (List.sublist_append_left _ M)).row (.slice (some ⟨gl, 0, none⟩) t.ticks.toNat cl)) hll (lbd_i64 hlb)⟩) ?_ ?_ ?_
   ·
    clear hS
    intro yl2 pre x w L M M0 hT hsub hcb2 hS
    obtain ⟨-, L2, rfl, hcb⟩ := hcb2.resolve_right (fun h => by cases h.1)
    obtain ⟨hTp, hTs, hTl⟩ := hT.last
    obtain ⟨⟨xc, xs2⟩, xv⟩ := x
    obtain ⟨axv, cxv, hxv⟩ := hTs
    obtain rfl : xv = _ := hxv
    try dsimp only [caQ, naQ] at hS
    refine seqX <| regionX rfl ?_
    refine salloc hS zeroValue125 rfl ?_; clear hS; intro b12 w hS
    refine sS hS rfl sizeOf125 ?_; clear hS; intro w hS
    refine nil <| cxQ <| regionX rfl <| vA <| nil ?_
    refine ⟨_, blk b12 (chC xc) 125 :: rowI (.slice (some ⟨gl, 0, none⟩) t.ticks.toNat cl) 69 2 t.ticks.toNat ((meetS sp (tubeS t (fct t.fcs (curOf t now c.length).toNat) (mem (fct t.fcs (curOf t now c.length).toNat) k))).flatMap spanC) :: packI (marks Ds) :: blk b9 [.int .i64 (fct t.fcs (curOf t now c.length).toNat).centre, .int .i64 (fct t.fcs (curOf t now c.length).toNat).issued, .int .i64 (fct t.fcs (curOf t now c.length).toNat).frm, .slice am (fct t.fcs (curOf t now c.length).toNat).members.length cm] 121 :: blk b6 [.func (.yield yl) #[] #[]] 222 :: blk i9 [.slice asv t.ticks.toNat csv] 113 :: blk i8 [.int .i64 many] 3 :: blk i7 [.int .i64 (c.length : Int)] 3 :: blk i6 (chC (c ++ [(k : Int)])) 125 :: blk i5 [ptQ bk] 71 :: L2, rfl, hS, ?_⟩
    clear hS hsub; clear M; intro M w hsub hS; try dsimp only [caQ, naQ] at hS
    refine blockX <| seqX <| regionL <| preX 3 rfl <| sv (yLdB h6 isAgg222 (hS.at _) rfl) <| sv (yLdBA rfl isAgg125 sizeOf125 (hS.at _) rfl rfl) <| vM <| nil ?_
    show wpListIn _ _ _ _ _ _ _ _
    replace hS := hS.perm (perm_mid [blk b12 (chC xc) 125, rowI (.slice (some ⟨gl, 0, none⟩) t.ticks.toNat cl) 69 2 t.ticks.toNat ((meetS sp (tubeS t (fct t.fcs (curOf t now c.length).toNat) (mem (fct t.fcs (curOf t now c.length).toNat) k))).flatMap spanC), packI (marks Ds), blk b9 [.int .i64 (fct t.fcs (curOf t now c.length).toNat).centre, .int .i64 (fct t.fcs (curOf t now c.length).toNat).issued, .int .i64 (fct t.fcs (curOf t now c.length).toNat).frm, .slice am (fct t.fcs (curOf t now c.length).toNat).members.length cm] 121, blk b6 [.func (.yield yl) #[] #[]] 222, blk i9 [.slice asv t.ticks.toNat csv] 113, blk i8 [.int .i64 many] 3, blk i7 [.int .i64 (c.length : Int)] 3, blk i6 (chC (c ++ [(k : Int)])) 125, blk i5 [ptQ bk] 71] L2 M)
    refine yieldR rfl e2 (hY (xs ++ (prk ++ pre)) ((xc, xs2), .slice axv t.ticks.toNat cxv) _ L2 ([blk b12 (chC xc) 125, rowI (.slice (some ⟨gl, 0, none⟩) t.ticks.toNat cl) 69 2 t.ticks.toNat ((meetS sp (tubeS t (fct t.fcs (curOf t now c.length).toNat) (mem (fct t.fcs (curOf t now c.length).toNat) k))).flatMap spanC), packI (marks Ds), blk b9 [.int .i64 (fct t.fcs (curOf t now c.length).toNat).centre, .int .i64 (fct t.fcs (curOf t now c.length).toNat).issued, .int .i64 (fct t.fcs (curOf t now c.length).toNat).frm, .slice am (fct t.fcs (curOf t now c.length).toNat).members.length cm] 121, blk b6 [.func (.yield yl) #[] #[]] 222, blk i9 [.slice asv t.ticks.toNat csv] 113, blk i8 [.int .i64 many] 3, blk i7 [.int .i64 (c.length : Int)] 3, blk i6 (chC (c ++ [(k : Int)])) 125, blk i5 [ptQ bk] 71] ++ M) (ChT.mk (by exact ch_trace hmore (by rw [cur_at hcl]) hkl hz1 hzk hTp) ⟨_, _, rfl⟩ (fun w hw hr => hTl w (fun it hit => hw it (List.mem_append_right _ (hsub it hit))) ⟨hr.1, hr.2.1, hr.2.2.1, sl_spans (hw (rowI (.slice (some ⟨gl, 0, none⟩) t.ticks.toNat cl) 69 2 t.ticks.toNat ((meetS sp (tubeS t (fct t.fcs (curOf t now c.length).toNat) (mem (fct t.fcs (curOf t now c.length).toNat) k))).flatMap spanC)) (by simp)) hll (lbd_i64 hlb)⟩)) hcb hS) ?_
    clear hS hcb; rintro _ w ⟨bq, L3, rfl, hcb, hS⟩
    replace hS : StX [] w0 w (blk b12 (chC xc) 125 :: rowI (.slice (some ⟨gl, 0, none⟩) t.ticks.toNat cl) 69 2 t.ticks.toNat ((meetS sp (tubeS t (fct t.fcs (curOf t now c.length).toNat) (mem (fct t.fcs (curOf t now c.length).toNat) k))).flatMap spanC) :: packI (marks Ds) :: blk b9 [.int .i64 (fct t.fcs (curOf t now c.length).toNat).centre, .int .i64 (fct t.fcs (curOf t now c.length).toNat).issued, .int .i64 (fct t.fcs (curOf t now c.length).toNat).frm, .slice am (fct t.fcs (curOf t now c.length).toNat).members.length cm] 121 :: blk b6 [.func (.yield yl) #[] #[]] 222 :: blk i9 [.slice asv t.ticks.toNat csv] 113 :: blk i8 [.int .i64 many] 3 :: blk i7 [.int .i64 (c.length : Int)] 3 :: blk i6 (chC (c ++ [(k : Int)])) 125 :: blk i5 [ptQ bk] 71 :: (L3 ++ M)) := hS.perm (perm_mid [blk b12 (chC xc) 125, rowI (.slice (some ⟨gl, 0, none⟩) t.ticks.toNat cl) 69 2 t.ticks.toNat ((meetS sp (tubeS t (fct t.fcs (curOf t now c.length).toNat) (mem (fct t.fcs (curOf t now c.length).toNat) k))).flatMap spanC), packI (marks Ds), blk b9 [.int .i64 (fct t.fcs (curOf t now c.length).toNat).centre, .int .i64 (fct t.fcs (curOf t now c.length).toNat).issued, .int .i64 (fct t.fcs (curOf t now c.length).toNat).frm, .slice am (fct t.fcs (curOf t now c.length).toNat).members.length cm] 121, blk b6 [.func (.yield yl) #[] #[]] 222, blk i9 [.slice asv t.ticks.toNat csv] 113, blk i8 [.int .i64 many] 3, blk i7 [.int .i64 (c.length : Int)] 3, blk i6 (chC (c ++ [(k : Int)])) 125, blk i5 [ptQ bk] 71] L3 M).symm
    refine endX rfl <| sv (yNot rfl) <| nil <| cxQ ?_
    refine condX rfl (fun c100 => ?_) (fun c100 => ?_)
    ·
     obtain rfl : bq = false := by cases bq; rfl; cases c100
     refine wpIn_ret (blockR ?_)
     exact ⟨_, (.inr ⟨rfl, L3, rfl, by rw [List.append_assoc, List.append_assoc] at hcb; exact hcb⟩), hS.sub (.cons _ lrQ)⟩
    obtain rfl : bq = true := by cases bq; cases c100; rfl
    refine skipX ?_
    exact ⟨_, (.inl ⟨rfl, L3, rfl, by rw [List.append_assoc, List.append_assoc] at hcb; exact hcb⟩), (hS.sub (.cons _ lrQ))⟩
   ·
    clear hS
    intro D2 w L xs3 hZ2 hcb hS
    have hcb0 := hcb.resolve_right (fun h => by cases h.1)
    clear hcb
    obtain ⟨-, L2, rfl, hcb⟩ := hcb0
    replace hS : StX [] w0 w (obj D2 (.deferred (some [])) :: rowI (.slice (some ⟨gl, 0, none⟩) t.ticks.toNat cl) 69 2 t.ticks.toNat ((meetS sp (tubeS t (fct t.fcs (curOf t now c.length).toNat) (mem (fct t.fcs (curOf t now c.length).toNat) k))).flatMap spanC) :: packI (marks Ds) :: blk b9 [.int .i64 (fct t.fcs (curOf t now c.length).toNat).centre, .int .i64 (fct t.fcs (curOf t now c.length).toNat).issued, .int .i64 (fct t.fcs (curOf t now c.length).toNat).frm, .slice am (fct t.fcs (curOf t now c.length).toNat).members.length cm] 121 :: blk b6 [.func (.yield yl) #[] #[]] 222 :: blk i9 [.slice asv t.ticks.toNat csv] 113 :: blk i8 [.int .i64 many] 3 :: blk i7 [.int .i64 (c.length : Int)] 3 :: blk i6 (chC (c ++ [(k : Int)])) 125 :: blk i5 [ptQ bk] 71 :: L2) := hS
    refine cxQ <| regionX rfl <| sv (yAddQ h72 rfl) <| vM <| nil ?_
    exact ⟨_, _, _, rfl, ⟨(D2 :: Ds), k + 1, (k : Int), prk ++ xs3, L2, rfl, h1, h2, h3, h4, h5, h6, h9, h70, h71, rfl, (chmarks hS), (by omega), (hcb), (by rw [List.map_append, hzk, show xs3.map (·.1) = _ from hZ2, chM_succ]), rfl⟩, by omega⟩
   intro D w L cc pre hcb hS
   have hcb0 := hcb.resolve_left (fun h => by cases h.1)
   clear hcb
   obtain ⟨hcc, L2, rfl, hcb⟩ := hcb0
   obtain rfl := Option.some.inj hcc
   try dsimp only [caQ, naQ] at hS
   replace hS := chmarks hS
   refine wpIn_ret (blockR (blockR (thenR (thenR (blockR ?_)))))
   refine leafM hS (fun w hS => results_none rfl _ _ _) (fun w hS => ?_)
   exact ⟨L2, hS.sub (.cons _ (.cons _ (.cons _ (.cons _ (.cons _ (.cons _ (.cons _ lrQ))))))), .inr ⟨_, hcb⟩⟩
  simp only [BS, ne_eq] at c73
  obtain rfl : k = (fct t.fcs (curOf t now c.length).toNat).members.length := by omega
  refine exitX ?_
  show bodyPostM (FX none) 0 _ _ _ .normal _ _
  refine leafM hS (fun w hS => results_none rfl _ _ _) (fun w hS => ?_)
  exact ⟨L, hS.sub (.cons _ (.cons _ (.cons _ (.cons _ (.cons _ (.cons _ (.cons _ lrQ))))))), .inl ⟨xs ++ prk, ch_whole hmore (by rw [cur_at hcl]) hz1 hzk, hcb⟩⟩
 intro D w L cc pre hcb hS
 have hcb0 := hcb.resolve_left (fun h => by cases h.1)
 clear hcb
 obtain ⟨hcc, L2, rfl, hcb⟩ := hcb0
 obtain rfl := Option.some.inj hcc
 try dsimp only [caQ, naQ] at hS
 refine wpIn_ret (blockR (thenR ?_))
 refine leafD hS (fun w hS => results_none rfl _ _ _) (fun w hS => ?_)
 exact ⟨L2, hS.sub (.cons _ (.cons _ (.cons _ (.cons _ (.cons _ (.cons _ (.cons _ lrQ))))))), .inr ⟨_, hcb⟩⟩
theorem it_choices {t : Sgt} {now : Int} {cv ov : Value} {ag ak ae aw ax : Option Addr} {cg ck ce cw cx bk : Nat} {T : TypeId} {w0 : World} (h : RSgt w0 (scQ t cv ag ak ae cg ck ce) t) (hok : SgOk t) (hnow : Bd now 0 200000) (hg : Glb w0) : ∀ n, ItCh w0 t now cv ov ag ak ae aw ax cg ck ce cw cx bk T n
 | 0 => fun c many sp asv csv i5 i6 i7 i8 i9 hcn hm0 hm4 hsl hsb => it_chstep h hok hnow hg (fun m hm => by omega) hcn hm0 hm4 hsl hsb
 | n + 1 => fun c many sp asv csv i5 i6 i7 i8 i9 hcn hm0 hm4 hsl hsb => it_chstep h hok hnow hg (fun m hm => by
   obtain rfl : n = m := by omega
   exact it_choices h hok hnow hg n) hcn hm0 hm4 hsl hsb
end Go.Proofs.YtchbdfcbogjhcaaGreatDoor
namespace Bx
open Go Go.RowKit
section
variable {t : Sgt} {now : Int}
theorem cho_of {tr : List ChX} {x : ChX} (h : (tr ++ [x]).map (·.1) <+: choS t now) : x.1 ∈ choS t now :=
 h.subset (by simp)
theorem cho_facts (h : SgOk t) {x : List Int × List Span} (hx : x ∈ choS t now) : x.1.length = t.ctrs.length ∧ x.2.length = t.ticks.toNat ∧ LBd 40000000 x.2 ∧ ∀ y ∈ x.1, I64 y := by
 refine ⟨?_, cho_len x hx, ch_lbd h _ _ _ _ (baseS_len t now) (baseS_lbd h now) x hx, ch_mem h _ _ _ _ (fun y hy => by cases hy) x hx⟩
 obtain ⟨d, h1, h2⟩ := ch_pre _ _ _ _ _ x hx
 rw [h1]; simpa using h2
abbrev bl (t : Sgt) (tr : List ChX) : List Bo := boxL t (tr.map (·.1))
theorem bl_no {tr : List ChX} {xc : List Int} {xs : List Span} {v : Value} (h : someT t.rate xs = false) : bl t (tr ++ [((xc, xs), v)]) = bl t tr := by
 unfold bl
 rw [List.map_append, List.map_singleton, boxL_snoc, h]; simp
theorem bl_yes {tr : List ChX} {xc : List Int} {xs : List Span} {v : Value} (h : someT t.rate xs = true) : bl t (tr ++ [((xc, xs), v)]) = bl t tr ++ [⟨xc, tightS t.rate xs⟩] := by
 unfold bl
 rw [List.map_append, List.map_singleton, boxL_snoc, h]; simp
theorem bl_bd (h : SgOk t) {tr : List ChX} {x : ChX} (hp : (tr ++ [x]).map (·.1) <+: choS t now) : (bl t tr).length < 626 := by
 have h1 := cho_bd (now := now) h
 have h2 := hp.length_le
 have h3 : (bl t tr).length ≤ (tr.map (·.1)).length := boxL_len
 rw [List.length_map] at h2 h3
 simp at h2
 omega
theorem bl_all {tr : List ChX} (hz : ChZ (choS t now) tr) : bl t tr = boxS t now := by
 unfold bl
 rw [show tr.map (·.1) = choS t now from hz]; rfl
theorem tides_lbd (h : SgOk t) : LBd 40000000 (tidesS t) := fun i hi => by
 rw [tidesS_len] at hi
 rw [spn_at (tidesS_get hi)]
 exact (tide_sbd h i).mono (by decide)
end
theorem packPush {w0 w : World} {v : Value} {z : List Int} {vs : List Value} {zs : List (List Int)} {L : List Item} (hl : vs.length = zs.length) (h : StX [] w0 w (inR v z :: packI (inI vs zs) :: L)) : StX [] w0 w (packI (inI (vs ++ [v]) (zs ++ [z])) :: L) := by
 rw [inI_snoc hl]
 exact h.packs
theorem bx_push {w0 w : World} {x1 x2 x3 x4 x5 RV : Item} {vm vl vh : Value} {zm zl zh : List Int} {ms ls hs : List Value} {zms zls zhs : List (List Int)} {L : List Item} (h1 : ms.length = zms.length) (h2 : ls.length = zls.length) (h3 : hs.length = zhs.length)
    (h : StX [] w0 w (x1 :: inR vm zm :: x2 :: x3 :: inR vl zl :: inR vh zh :: x4 :: x5 :: RV :: packI (inI ms zms) :: packI (inI ls zls) :: packI (inI hs zhs) :: L)) :
    StX [] w0 w (RV :: packI (inI (ms ++ [vm]) (zms ++ [zm])) :: packI (inI (ls ++ [vl]) (zls ++ [zl])) :: packI (inI (hs ++ [vh]) (zhs ++ [zh])) :: L) := by
  have k0 : StX [] w0 w (inR vm zm :: inR vl zl :: inR vh zh :: RV :: packI (inI ms zms) :: packI (inI ls zls) :: packI (inI hs zhs) :: L) :=
    h.sub (.cons _ (.cons_cons _ (.cons _ (.cons _ (.cons_cons _ (.cons_cons _ (.cons _ (.cons _ (List.Sublist.refl _)))))))))
  have k1 : StX [] w0 w (inR vm zm :: packI (inI ms zms) :: (inR vl zl :: inR vh zh :: RV :: packI (inI ls zls) :: packI (inI hs zhs) :: L)) := k0.perm (List.Perm.cons _ (List.perm_middle (l₁ := [_, _, _])))
  have k2 : StX [] w0 w (inR vl zl :: packI (inI ls zls) :: (packI (inI (ms ++ [vm]) (zms ++ [zm])) :: inR vh zh :: RV :: packI (inI hs zhs) :: L)) :=
    (packPush h1 k1).perm ((List.perm_middle (l₁ := [_]) (l₂ := _) (a := inR vl zl)).trans (List.Perm.cons _ (List.perm_middle (l₁ := [_, _, _]))))
  have k3 : StX [] w0 w (inR vh zh :: packI (inI hs zhs) :: (packI (inI (ls ++ [vl]) (zls ++ [zl])) :: packI (inI (ms ++ [vm]) (zms ++ [zm])) :: RV :: L)) :=
    (packPush h2 k2).perm ((List.perm_middle (l₁ := [_, _]) (l₂ := _) (a := inR vh zh)).trans (List.Perm.cons _ (List.perm_middle (l₁ := [_, _, _]))))
  have k4 := packPush h3 k3
  refine k4.perm ?_
  refine (List.perm_middle (l₁ := [_, _, _]) (a := RV) (l₂ := L)).trans (List.Perm.cons _ ?_)
  exact tight_swap _ _ _ _
theorem bxEnd {w0 w : World} {frm : Int} {bs : List Bo} (b : Bo) {nc nt : Nat} {E : TypeId} {x1 x2 x3 x4 x5 : Item} {v m l h : Value} {ms ls hs : List Value} {L : List Item} (hnc : b.mem.length = nc) (hnl : (lowB b).length = nt) (hnh : (highB b).length = nt)
    (h1 : ms.length = bs.length) (h2 : ls.length = bs.length) (h3 : hs.length = bs.length)
    (hS : StX [] w0 w (x1 :: rowI m 3 1 nc (b.mem.flatMap encI) :: x2 :: x3 :: rowI l 3 1 nt ((lowB b).flatMap encI) :: rowI h 3 1 nt ((highB b).flatMap encI) :: x4 :: x5 :: rowI v E 9 (bs.length + 1) ((bxCs frm (bs.map Bo.mem) ms ls hs).flatten ++ bxC frm b.mem m l h) :: packI (inI ms (bs.map Bo.mem)) :: packI (inI ls (bs.map lowB)) :: packI (inI hs (bs.map highB)) :: L)) :
    StX [] w0 w (rowI v E 9 (bs ++ [b]).length (bxCs frm ((bs ++ [b]).map Bo.mem) (ms ++ [m]) (ls ++ [l]) (hs ++ [h])).flatten :: packI (inI (ms ++ [m]) ((bs ++ [b]).map Bo.mem)) :: packI (inI (ls ++ [l]) ((bs ++ [b]).map lowB)) :: packI (inI (hs ++ [h]) ((bs ++ [b]).map highB)) :: L) := by
  subst hnc
  rw [List.map_append, List.map_append, List.map_append, List.map_singleton, List.map_singleton, List.map_singleton, bxCs_snoc frm b.mem m l h (by simp [h1]) (by simp [h2]) (by simp [h3]), List.flatten_append, List.flatten_singleton, List.length_append, List.length_singleton]
  have e2 : inR l (lowB b) = rowI l 3 1 nt ((lowB b).flatMap encI) := by unfold inR; rw [hnl]
  have e3 : inR h (highB b) = rowI h 3 1 nt ((highB b).flatMap encI) := by unfold inR; rw [hnh]
  rw [← e2, ← e3] at hS
  exact bx_push (by simp [h1]) (by simp [h2]) (by simp [h3]) hS
theorem cho_cells {w : World} {b n : Nat} {T : TypeId} {xc : List Int} (h : w.heap[b]? = some (.cells (chC xc).toArray T (0, 0))) (hl : xc.length = n) (hn : n ≤ 4) : Cells w b 0 (xc.flatMap encI) := by
 rw [← chC_take xc (by omega)]
 intro j u hj
 rw [List.getElem?_take] at hj
 split at hj
 ·
  exact blk_cells h j u hj
 ·
  cases hj
end Bx
namespace Go.Proofs.YtchbdfcbogjhcaaGreatDoor
open Go Bx Go.Proofs.Tryz
theorem c_tightenN {l : List Span} {g cap nn : Nat} {r : Int} {w0 w : World} {L9 : List Bx.Item} (hl : l.length = nn) (hS : StX [] w0 w (rowI (.slice (some ⟨g, 0, none⟩) nn cap) 69 2 nn ((l).flatMap spanC) :: L9)) (hmx : nn ≤ 1000) (hlb : LBd 40000000 l) (hr : 0 ≤ r ∧ r ≤ 5000) :
  CE Tryz.prog 67 #[.slice (some ⟨g, 0, none⟩) nn cap, .int .i64 r] w (fun u w' => u = .bool (someT r l) ∧ ∃ q : List Span, (someT r l = true → q = tightS r l) ∧ StX [] w0 w' (rowI (.slice (some ⟨g, 0, none⟩) nn cap) 69 2 nn ((q).flatMap spanC) :: L9)) := by
 subst hl
 exact c_tighten hS hmx hlb hr
theorem c_boxes {t : Sgt} {now : Int} {cv ov : Value} {ag ak ae aw ax : Option Addr} {cg ck ce cw cx bk mo : Nat} {os : List Span} {w0 w : World} {L9 : List Bx.Item} (h : RSgt w0 (scQ t cv ag ak ae cg ck ce) t) (hok : SgOk t) (hnow : Bd now 0 200000) (hg : Glb w0) (hown : (os = [] ∧ mo = 0 ∧ ov = .slice none 0 0) ∨ (os = baseS t now ∧ mo = t.ticks.toNat)) (hS : StX [] w0 w (blk bk (knQ t now cv ag ak ae cg ck ce aw cw ax cx ov) 115 :: rowI (ov) 69 2 mo ((os).flatMap spanC) :: rowI (.slice aw t.ticks.toNat cw) 69 2 t.ticks.toNat ((tidesS t).flatMap spanC) :: rowI (.slice ax t.ctrs.length cx) 3 1 t.ctrs.length ((curS t now).flatMap Bx.encI) :: L9)) : CE Tryz.prog 34 #[ptQ bk] w (fun u w' => ∃ ov' ms ls hs, ms.length = (boxS t now).length ∧ ls.length = (boxS t now).length ∧ hs.length = (boxS t now).length ∧ StX [] w0 w' (rowI (u) 129 9 (boxS t now).length (bxCs t.frm ((boxS t now).map Bo.mem) ms ls hs).flatten :: packI (inI ms ((boxS t now).map Bo.mem)) :: packI (inI ls ((boxS t now).map lowB)) :: packI (inI hs ((boxS t now).map highB)) :: blk bk (knQ t now cv ag ak ae cg ck ce aw cw ax cx ov') 115 :: rowI (ov') 69 2 t.ticks.toNat ((baseS t now).flatMap spanC) :: rowI (.slice aw t.ticks.toNat cw) 69 2 t.ticks.toNat ((tidesS t).flatMap spanC) :: rowI (.slice ax t.ctrs.length cx) 3 1 t.ctrs.length ((curS t now).flatMap Bx.encI) :: L9)) := by
 obtain ⟨hT, hG, hw64, hf64, hk64, hC, hF, hl64, hm64, hr64, hq64⟩ := RSgt.parts h
 have htk := hok.tk
 have hnc := hok.nc
 have hn4 := hok.nums4
 refine enterX func34 rfl ntmps34 rfl ?_
 skip
 refine seqX <| regionX rfl ?_
 refine sbox hS rfl rfl ?_; clear hS; intro b1 w hS
 refine salloc hS zeroValue122 rfl ?_; clear hS; intro b2 w hS
 refine nil <| cxQ <| seqX <| seqX <| region_anyX (C := (fun w => w.heap[b1]? = some (.cells ([ptQ bk] : List Value).toArray 71 (0, 0)))) mixed 0 7 (by kernel_rfl) rfl hS (fun w hS => hS.at b1) ?_
 clear hS; intro w hS
 refine hnil <| fsR 0 rfl (hS.at b1) (fun w hS => yLdB rfl isAgg71 hS rfl) <| fsR 1 rfl (hS.at b1) (fun w hS => yBuildA zeroValue125 rfl underlying125 sizeOf3 .nil rfl) <| fsR 2 rfl (hS.at b1) (fun w hS => yLdB rfl isAgg71 hS rfl) <| fsR 4 rfl (hS.at b1) (fun w hS => yLdB rfl isAgg71 hS rfl) <| awQ <| a1Q 3 rfl ?_
 replace hS : StX [] w0 w (blk bk (knQ t now cv ag ak ae cg ck ce aw cw ax cx ov) 115 :: rowI (ov) 69 2 mo ((os).flatMap spanC) :: rowI (.slice aw t.ticks.toNat cw) 69 2 t.ticks.toNat ((tidesS t).flatMap spanC) :: rowI (.slice ax t.ctrs.length cx) 3 1 t.ctrs.length ((curS t now).flatMap Bx.encI) :: blk b2 [.slice none 0 0] 122 :: blk b1 [ptQ bk] 71 :: L9) := hS.perm (List.perm_append_comm_assoc [_, _] [_, _, _, _] L9)
 refine scV hS call56 e1 (c_needS ⟨cv, ag, cg, ak, ck, ae, ce, aw, cw, ax, cx, hS.at bk, RTable.stays _ _ _ _ hS.ext hT, hG.ext RGauge.stays hS.ext, hC.ext RCtr.stays hS.ext, hF.ext RFct.stays hS.ext, sl_spans (hS.row (.slice aw t.ticks.toNat cw)) (tidesS_len ..) (lbd_i64 (tides_lbd hok)), sl_ints (hS.row (.slice ax t.ctrs.length cx)) (curS_len ..) (cur_i64 hok)⟩ hok) ?_; clear hS; intro w hS
 refine nil ?_
 refine ⟨fun _ => (hS.at b1), ?_⟩
 refine awQ <| awQ <| a1Q 5 rfl ?_
 refine scall call53 e1 (c_baseS h hok hnow hg hown hS) ?_
 rintro bv w ⟨ov', hM⟩; clear hS; have hS := hM; clear hM
 obtain ⟨go, co, rfl, -⟩ := row_some (hS.row bv) (by omega)
 refine nil ?_
 refine ⟨fun _ => (hS.at b1), ?_⟩
 refine awQ <| awQ <| a1Q 6 rfl ?_
 replace hS := (StX.pack (M := inI [] []) (StX.pack (M := inI [] []) (StX.pack (M := inI [] []) hS))).nilrow 129 9
 refine scall call65 (.cons rfl (.cons rfl e3)) (c_choices (c := []) (nn := t.ticks.toNat)) ?_
 rintro _ w ⟨j5, j6, j7, j8, j9, rfl, hM⟩; replace hS := hS.call hM; clear hM
 replace hS : StX [] w0 w (blk j9 [.slice (some ⟨go, 0, none⟩) t.ticks.toNat co] 113 :: blk j8 [.int .i64 (needS t now)] 3 :: blk j7 [.int .i64 (([] : List Int).length : Int)] 3 :: blk j6 (chC ([] : List Int)) 125 :: blk j5 [ptQ bk] 71 :: rowI (.slice none 0 0) 129 9 (bl t []).length (bxCs t.frm ((bl t []).map Bo.mem) [] [] []).flatten :: packI (inI [] ((bl t []).map Bo.mem)) :: packI (inI [] ((bl t []).map lowB)) :: packI (inI [] ((bl t []).map highB)) :: rowI (.slice (some ⟨go, 0, none⟩) t.ticks.toNat co) 69 2 t.ticks.toNat ((baseS t now).flatMap spanC) :: blk bk (knQ t now cv ag ak ae cg ck ce aw cw ax cx ov') 115 :: rowI (ov') 69 2 t.ticks.toNat ((baseS t now).flatMap spanC) :: rowI (.slice aw t.ticks.toNat cw) 69 2 t.ticks.toNat ((tidesS t).flatMap spanC) :: rowI (.slice ax t.ctrs.length cx) 3 1 t.ctrs.length ((curS t now).flatMap Bx.encI) :: blk b2 [.slice none 0 0] 122 :: blk b1 [ptQ bk] 71 :: L9) := hS
 refine nil ?_
 refine ⟨fun _ => (hS.at b1), ?_⟩
 refine awQ <| a_end (by kernel_rfl) <| cxQ <| blockX ?_
 refine rangeQ (R := [blk j9 [.slice (some ⟨go, 0, none⟩) t.ticks.toNat co] 113, blk j8 [.int .i64 (needS t now)] 3, blk j7 [.int .i64 (([] : List Int).length : Int)] 3, blk j6 (chC ([] : List Int)) 125, blk j5 [ptQ bk] 71]) (L0 := rowI (.slice none 0 0) 129 9 (bl t []).length (bxCs t.frm ((bl t []).map Bo.mem) [] [] []).flatten :: packI (inI [] ((bl t []).map Bo.mem)) :: packI (inI [] ((bl t []).map lowB)) :: packI (inI [] ((bl t []).map highB)) :: rowI (.slice (some ⟨go, 0, none⟩) t.ticks.toNat co) 69 2 t.ticks.toNat ((baseS t now).flatMap spanC) :: blk bk (knQ t now cv ag ak ae cg ck ce aw cw ax cx ov') 115 :: rowI (ov') 69 2 t.ticks.toNat ((baseS t now).flatMap spanC) :: rowI (.slice aw t.ticks.toNat cw) 69 2 t.ticks.toNat ((tidesS t).flatMap spanC) :: rowI (.slice ax t.ctrs.length cx) 3 1 t.ctrs.length ((curS t now).flatMap Bx.encI) :: blk b2 [.slice none 0 0] 122 :: blk b1 [ptQ bk] 71 :: L9) (ps := [14, 15]) rfl call111 hS (it_choices h hok hnow hg t.ctrs.length [] (needS t now) (baseS t now) (some ⟨go, 0, none⟩) co _ _ _ _ _ (by simp) (need_nn now hok) (need_le hok) (baseS_len t now) (baseS_lbd hok now)) (fun cc pre L => cc = none ∧ ∃ v ms ls hs, ms.length = (bl t pre).length ∧ ls.length = (bl t pre).length ∧ hs.length = (bl t pre).length ∧ L = rowI (v) 129 9 (bl t pre).length (bxCs t.frm ((bl t pre).map Bo.mem) ms ls hs).flatten :: packI (inI ms ((bl t pre).map Bo.mem)) :: packI (inI ls ((bl t pre).map lowB)) :: packI (inI hs ((bl t pre).map highB)) :: rowI (.slice (some ⟨go, 0, none⟩) t.ticks.toNat co) 69 2 t.ticks.toNat ((baseS t now).flatMap spanC) :: blk bk (knQ t now cv ag ak ae cg ck ce aw cw ax cx ov') 115 :: rowI (ov') 69 2 t.ticks.toNat ((baseS t now).flatMap spanC) :: rowI (.slice aw t.ticks.toNat cw) 69 2 t.ticks.toNat ((tidesS t).flatMap spanC) :: rowI (.slice ax t.ctrs.length cx) 3 1 t.ctrs.length ((curS t now).flatMap Bx.encI) :: blk b2 [v] 122 :: blk b1 [ptQ bk] 71 :: L9) ⟨rfl, .slice none 0 0, [], [], [], rfl, rfl, rfl, rfl⟩ (fun _ => rfl) (fun pre w L M hcb2 hS => by
  obtain ⟨-, v, ms, ls, hs, -, -, -, rfl⟩ := hcb2
  have hq := hS.sub (List.sublist_append_left _ M)
  exact ⟨hq.at bk, sl_spans (hq.row (.slice aw t.ticks.toNat cw)) (tidesS_len ..) (lbd_i64 (tides_lbd hok)), sl_ints (hq.row (.slice ax t.ctrs.length cx)) (curS_len ..) (cur_i64 hok), sl_spans (hq.row (.slice (some ⟨go, 0, none⟩) t.ticks.toNat co)) (baseS_len ..) (lbd_i64 (baseS_lbd hok now))⟩) ?_ ?_ ?_
 ·
  clear hS
  intro yl2 pre x w L M M0 hT hsub hcb2 hS
  obtain ⟨-, v, ms, ls, hs, hl1, hl2, hl3, rfl⟩ := hcb2
  obtain ⟨hTp, hTs, hTl⟩ := hT.last
  obtain ⟨⟨xc, xs2⟩, xv⟩ := x
  obtain ⟨axv, cxv, hxv⟩ := hTs
  obtain rfl : xv = _ := hxv
  obtain ⟨hxl, hxn, hxb, hxi⟩ := cho_facts hok (cho_of hTp)
  have hbb := bl_bd hok hTp
  try dsimp only [caQ, naQ] at hS
  refine seqX <| regionX rfl ?_
  refine salloc hS zeroValue125 rfl ?_; clear hS; intro b3 w hS
  refine sS hS rfl sizeOf125 ?_; clear hS; intro w hS
  refine nil <| cxQ <| regionX rfl <| vA <| nil ?_
  refine ⟨_, blk b3 (chC xc) 125 :: rowI (v) 129 9 (bl t pre).length (bxCs t.frm ((bl t pre).map Bo.mem) ms ls hs).flatten :: packI (inI ms ((bl t pre).map Bo.mem)) :: packI (inI ls ((bl t pre).map lowB)) :: packI (inI hs ((bl t pre).map highB)) :: rowI (.slice (some ⟨go, 0, none⟩) t.ticks.toNat co) 69 2 t.ticks.toNat ((baseS t now).flatMap spanC) :: blk bk (knQ t now cv ag ak ae cg ck ce aw cw ax cx ov') 115 :: rowI (ov') 69 2 t.ticks.toNat ((baseS t now).flatMap spanC) :: rowI (.slice aw t.ticks.toNat cw) 69 2 t.ticks.toNat ((tidesS t).flatMap spanC) :: rowI (.slice ax t.ctrs.length cx) 3 1 t.ctrs.length ((curS t now).flatMap Bx.encI) :: blk b2 [v] 122 :: blk b1 [ptQ bk] 71 :: L9, rfl, hS, ?_⟩
  clear hS hsub; clear M; intro M w hsub hS; try dsimp only [caQ, naQ] at hS
  refine blockX <| seqX <| regionX rfl ?_
  have hRd : RdC bk 115 (knQ t now cv ag ak ae cg ck ce aw cw ax cx ov') t now aw ax (some ⟨go, 0, none⟩) cw cx co (baseS t now) w := by
   have hq := hS.sub (.cons _ (List.sublist_append_left (rowI (v) 129 9 (bl t pre).length (bxCs t.frm ((bl t pre).map Bo.mem) ms ls hs).flatten :: packI (inI ms ((bl t pre).map Bo.mem)) :: packI (inI ls ((bl t pre).map lowB)) :: packI (inI hs ((bl t pre).map highB)) :: rowI (.slice (some ⟨go, 0, none⟩) t.ticks.toNat co) 69 2 t.ticks.toNat ((baseS t now).flatMap spanC) :: blk bk (knQ t now cv ag ak ae cg ck ce aw cw ax cx ov') 115 :: rowI (ov') 69 2 t.ticks.toNat ((baseS t now).flatMap spanC) :: rowI (.slice aw t.ticks.toNat cw) 69 2 t.ticks.toNat ((tidesS t).flatMap spanC) :: rowI (.slice ax t.ctrs.length cx) 3 1 t.ctrs.length ((curS t now).flatMap Bx.encI) :: blk b2 [v] 122 :: blk b1 [ptQ bk] 71 :: L9) M))
   exact ⟨hq.at bk, sl_spans (hq.row (.slice aw t.ticks.toNat cw)) (tidesS_len ..) (lbd_i64 (tides_lbd hok)), sl_ints (hq.row (.slice ax t.ctrs.length cx)) (curS_len ..) (cur_i64 hok), sl_spans (hq.row (.slice (some ⟨go, 0, none⟩) t.ticks.toNat co)) (baseS_len ..) (lbd_i64 (baseS_lbd hok now))⟩
  have hxs := hTl w (fun it hit => hS.ok it (List.mem_cons_of_mem _ (List.mem_append_right (rowI (v) 129 9 (bl t pre).length (bxCs t.frm ((bl t pre).map Bo.mem) ms ls hs).flatten :: packI (inI ms ((bl t pre).map Bo.mem)) :: packI (inI ls ((bl t pre).map lowB)) :: packI (inI hs ((bl t pre).map highB)) :: rowI (.slice (some ⟨go, 0, none⟩) t.ticks.toNat co) 69 2 t.ticks.toNat ((baseS t now).flatMap spanC) :: blk bk (knQ t now cv ag ak ae cg ck ce aw cw ax cx ov') 115 :: rowI (ov') 69 2 t.ticks.toNat ((baseS t now).flatMap spanC) :: rowI (.slice aw t.ticks.toNat cw) 69 2 t.ticks.toNat ((tidesS t).flatMap spanC) :: rowI (.slice ax t.ctrs.length cx) 3 1 t.ctrs.length ((curS t now).flatMap Bx.encI) :: blk b2 [v] 122 :: blk b1 [ptQ bk] 71 :: L9) (hsub it hit)))) hRd
  refine vM ?_
  refine scall call66 e1 (c_CloneS hxs hxn (by omega)) ?_
  rintro gv w hM; replace hS := hS.call1 hM; clear hM
  obtain ⟨gl, cl, rfl, -⟩ := row_some (hS.row gv) (by omega)
  refine vA <| nil <| cxQ <| seqX <| seqX <| regionX rfl <| vM <| vL rfl isAgg71 hS rfl <| sv (yNil rfl) <| sv (fa115_0 rfl) <| sv (fa29_9 rfl) <| vL rfl isAgg3 hS rfl ?_
  refine scall call67 e2 (c_tightenN hxn hS (by omega) hxb ⟨rate_nn hok, by have := hn4.2.2.1; omega⟩) ?_
  clear hS; rintro _ w ⟨rfl, q, hq, hS⟩
  refine sv (yNot rfl) <| nil <| cxQ ?_
  refine condX rfl (fun c25 => ?_) (fun c25 => ?_)
  ·
   have hst : someT t.rate xs2 = false := by cases hh : someT t.rate xs2 with | false => rfl | true => rw [hh] at c25; cases c25
   refine exitX ?_
   exact ⟨_, ⟨rfl, v, ms, ls, hs, by rw [bl_no hst]; exact hl1, by rw [bl_no hst]; exact hl2, by rw [bl_no hst]; exact hl3, rfl⟩, (by rw [bl_no hst]; exact hS.sub (.cons _ (.cons _ lrQ)))⟩
  have hst : someT t.rate xs2 = true := by cases hh : someT t.rate xs2 with | true => rfl | false => rw [hh] at c25; cases c25
  obtain rfl := hq hst
  have hqb : LBd 40000000 (tightS t.rate xs2) := tight_sbd (rate_nn hok) hxb
  refine skipX <| cxQ <| seqX <| regionX rfl <| vM <| vL rfl isAgg71 hS rfl <| sv (yNil rfl) <| sv (fa115_0 rfl) <| sv (fa29_3 rfl) <| vL rfl isAgg3 hS rfl ?_
  refine scall call68 e2 (c_endsS (sl_spans (hS.row (.slice (some ⟨gl, 0, none⟩) t.ticks.toNat cl)) ((tightS_len ..).trans hxn) (lbd_i64 hqb)) ((tightS_len ..).trans hxn) (by omega)) ?_
  rintro _ w ⟨lv, hv, rfl, hM⟩; obtain ⟨alv, clv, rfl⟩ := row_shape (hM.row lv)
  obtain ⟨ahv, chv, rfl⟩ := row_shape (hM.row hv)
  replace hS := hS.call hM; clear hM
  try dsimp only [caQ, naQ] at hS
  refine vM <| sv (yExt rfl rfl) <| sv (yExt rfl rfl) ?_
  refine salloc hS zeroValue32 rfl ?_; clear hS; intro b5 w hS
  refine salloc hS zeroValue32 rfl ?_; clear hS; intro b6 w hS
  refine sS hS rfl sizeOf32 ?_; clear hS; intro w hS
  refine sS hS rfl sizeOf32 ?_; clear hS; intro w hS
  refine nil <| cxQ <| region_anyX (C := (fun w => w.heap[b2]? = some (.cells ([v] : List Value).toArray 122 (0, 0)) ∧ w.heap[b3]? = some (.cells (chC xc : List Value).toArray 125 (0, 0)) ∧ w.heap[b1]? = some (.cells ([ptQ bk] : List Value).toArray 71 (0, 0)) ∧ w.heap[bk]? = some (.cells ((knQ t now cv ag ak ae cg ck ce aw cw ax cx ov') : List Value).toArray 115 (0, 0)) ∧ w.heap[b5]? = some (.cells ([.int .i64 t.frm, .slice alv t.ticks.toNat clv] : List Value).toArray 32 (0, 0)) ∧ w.heap[b6]? = some (.cells ([.int .i64 t.frm, .slice ahv t.ticks.toNat chv] : List Value).toArray 32 (0, 0)))) mixed 0 15 (by kernel_rfl) rfl hS (fun w hS => ⟨hS.at b2, hS.at b3, hS.at b1, hS.at bk, hS.at b5, hS.at b6⟩) ?_
  clear hS; intro w hS
  refine hnil <| fsR 0 rfl ⟨hS.at b2, hS.at b3, hS.at b1, hS.at bk, hS.at b5, hS.at b6⟩ (fun w hS => yLdB rfl isAgg122 hS.1 rfl) <| fsR 1 rfl ⟨hS.at b2, hS.at b3, hS.at b1, hS.at bk, hS.at b5, hS.at b6⟩ (fun w hS => yLdBA rfl isAgg125 sizeOf125 hS.2.1 rfl rfl) <| fsR 2 rfl ⟨hS.at b2, hS.at b3, hS.at b1, hS.at bk, hS.at b5, hS.at b6⟩ (fun w hS => yLdB rfl isAgg71 hS.2.2.1 rfl) <| fsR 3 rfl ⟨hS.at b2, hS.at b3, hS.at b1, hS.at bk, hS.at b5, hS.at b6⟩ (fun w hS => yNil rfl) <| fsR 4 rfl ⟨hS.at b2, hS.at b3, hS.at b1, hS.at bk, hS.at b5, hS.at b6⟩ (fun w hS => fa115_3 rfl) <| fsR 5 rfl ⟨hS.at b2, hS.at b3, hS.at b1, hS.at bk, hS.at b5, hS.at b6⟩ (fun w hS => yLdB rfl isAgg30 hS.2.2.2.1 rfl) <| fsR 6 rfl ⟨hS.at b2, hS.at b3, hS.at b1, hS.at bk, hS.at b5, hS.at b6⟩ (fun w hS => yLen rfl underlying30) <| fsR 7 rfl ⟨hS.at b2, hS.at b3, hS.at b1, hS.at bk, hS.at b5, hS.at b6⟩ (fun w hS => ySlA (j := t.ctrs.length) (m := 4) rfl rfl runUnderlying125 sizeOf3 (by omega)) ?_
  refine fsR 9 rfl ⟨hS.at b2, hS.at b3, hS.at b1, hS.at bk, hS.at b5, hS.at b6⟩ (fun w hS => yLdBA rfl isAgg32 sizeOf32 hS.2.2.2.2.1 rfl rfl) <| fsR 10 rfl ⟨hS.at b2, hS.at b3, hS.at b1, hS.at bk, hS.at b5, hS.at b6⟩ (fun w hS => yLdBA rfl isAgg32 sizeOf32 hS.2.2.2.2.2 rfl rfl) <| awQ <| a1Q 8 rfl ?_
  refine sappS (bytes := 8) (size := 1) (news := xc.flatMap Bx.encI) (hS.nilrow 3 1) rfl rfl underlying30 ti3 rfl rfl rfl rfl (by decide) sizeOf3 (fun hh => ⟨b3, 0, rfl, cho_cells (hS.at b3) hxl (by omega)⟩) (by rw [flat_len encI_len, hxl]) (ints_one _) (by omega) (by omega) ?_; clear hS; intro v44 w hS; rw [Nat.zero_add, List.nil_append] at hS
  obtain ⟨a44, c44, rfl⟩ := row_shape (hS.row v44)
  refine nil ?_
  refine ⟨fun _ => ⟨hS.at b2, hS.at b3, hS.at b1, hS.at bk, hS.at b5, hS.at b6⟩, ?_⟩
  refine awQ <| fsR 11 rfl ⟨hS.at b2, hS.at b3, hS.at b1, hS.at bk, hS.at b5, hS.at b6⟩ (fun w hS => yBuild zeroValue127 rfl pl127 (.cons rfl rfl (.cons rfl rfl (.cons rfl rfl .nil))) rfl) <| fsR 12 rfl ⟨hS.at b2, hS.at b3, hS.at b1, hS.at bk, hS.at b5, hS.at b6⟩ (fun w hS => yBuild zeroValue129 rfl pl129 (.cons rfl rfl (.cons rfl rfl .nil)) rfl) <| awQ <| a1Q 13 rfl ?_
  refine sbslice hS underlying122 sizeOf129 rfl zeroValue129 rfl (.cons rfl rfl .nil) rfl ?_; clear hS; intro b49 w hS
  refine nil ?_
  refine ⟨fun _ => ⟨hS.at b2, hS.at b3, hS.at b1, hS.at bk, hS.at b5, hS.at b6⟩, ?_⟩
  refine awQ <| awQ <| a1Q 14 rfl ?_
  refine sapp (bytes := 120) (size := 9) (v := v) (m := 1) hS rfl rfl underlying122 ti129 rfl rfl rfl rfl (by decide) (blk_cells (hS.at _)) rfl rfl (by omega) (by omega) ?_; clear hS; intro v50 w hS
  refine nil ?_
  refine ⟨fun _ => ⟨hS.at b2, hS.at b3, hS.at b1, hS.at bk, hS.at b5, hS.at b6⟩, ?_⟩
  refine awQ <| awQ <| a1Q 15 rfl ?_
  obtain ⟨a50, c50, rfl⟩ := row_shape (hS.row v50)
  refine sS hS rfl sizeOf122 ?_; clear hS; intro w hS
  refine nil ?_
  refine ⟨fun h => absurd h (by decide), ?_⟩
  refine awQ <| a_end (by kernel_rfl) ?_
  exact ⟨_, ⟨rfl, _, ms ++ [.slice a44 t.ctrs.length c44], ls ++ [.slice alv t.ticks.toNat clv], hs ++ [.slice ahv t.ticks.toNat chv], by rw [bl_yes hst]; simp [hl1], by rw [bl_yes hst]; simp [hl2], by rw [bl_yes hst]; simp [hl3], rfl⟩, (by rw [bl_yes hst]; exact bxEnd ⟨xc, tightS t.rate xs2⟩ hxl (by simp [lowB, losS, tightS_len, hxn]) (by simp [highB, hisS, tightS_len, hxn]) hl1 hl2 hl3 hS)⟩
 ·
  clear hS
  intro D w L xs hZ hcb hS
  obtain ⟨-, v, ms, ls, hs, hl1, hl2, hl3, rfl⟩ := hcb
  rw [bl_all hZ] at hl1 hl2 hl3 hS
  try dsimp only [caQ, naQ] at hS
  refine cxQ <| seqX <| regionX rfl ?_
  obtain ⟨av, cv2, rfl⟩ := row_shape (hS.row v)
  refine vL rfl isAgg122 hS rfl ?_
  refine sS hS rfl sizeOf122 ?_; clear hS; intro w hS
  refine nil <| cxQ <| wpIn_ret ?_
  refine leafD hS (fun w hS => resV1 rfl (rc1 rfl isAgg122 (hS.at b2) rfl)) (fun w hS => ?_)
  exact ⟨_, ms, ls, hs, hl1, hl2, hl3, hS.sub (.cons _ (.cons_cons _ (.cons_cons _ (.cons_cons _ (.cons_cons _ (.cons _ (.cons_cons _ (.cons_cons _ (.cons_cons _ (.cons_cons _ (.cons _ (.cons _ lrQ))))))))))))⟩
 intro D w L c pre hcb hS; exact absurd hcb.1 (by simp)
variable {ρ : Operand → Value} {w : World} {ty : TypeId}
theorem eqInCh {a0 b0 a1 b1 a2 b2 a3 b3 : Int} : (Op.equalIn 10000 125 (.agg #[.int .i64 a0, .int .i64 a1, .int .i64 a2, .int .i64 a3]) (.agg #[.int .i64 b0, .int .i64 b1, .int .i64 b2, .int .i64 b3])).run Tryz.prog w = .ok (decide (a0 = b0) && decide (a1 = b1) && decide (a2 = b2) && decide (a3 = b3)) w := by
 have u3 := Tryz.underlying3
 have g3 := Tryz.isAgg3
 have z3 := Tryz.sizeOf3
 rw [show (10000 : Nat) = 9999 + 1 from rfl, run_equalIn_array (P := Tryz.prog) w 9999 _ _ Tryz.underlying125 ti3]
 rw [show Tryz.prog.cellsOf 3 = 1 by kernel_rfl, show List.range 4 = [0, 1, 2, 3] from rfl]
 simp only [Op.eqItems]
 go_simp
 by_cases h0 : a0 = b0 <;> by_cases h1 : a1 = b1 <;> by_cases h2 : a2 = b2 <;> by_cases h3 : a3 = b3 <;> simp [h0, h1, h2, h3]
theorem chC_inj : ∀ {a b : List Int}, a.length = b.length → b.length ≤ 4 → ((decide (a.getD 0 0 = b.getD 0 0) && decide (a.getD 1 0 = b.getD 1 0) && decide (a.getD 2 0 = b.getD 2 0) && decide (a.getD 3 0 = b.getD 3 0)) = decide (a = b))
 | [], [], _, _ => by simp
 | [a], [b], _, _ => by simp
 | [a, a2], [b, b2], _, _ => by simp [Bool.and_assoc]
 | [a, a2, a3], [b, b2, b3], _, _ => by simp [Bool.and_assoc]
 | [a, a2, a3, a4], [b, b2, b3, b4], _, _ => by simp [Bool.and_assoc]
 | [], _ :: _, h, _ => by simp at h
 | _ :: _, [], h, _ => by simp at h
 | [_], _ :: _ :: _, h, _ => by simp at h
 | _ :: _ :: _, [_], h, _ => by simp at h
 | [_, _], _ :: _ :: _ :: _, h, _ => by simp at h
 | _ :: _ :: _ :: _, [_, _], h, _ => by simp at h
 | [_, _, _], _ :: _ :: _ :: _ :: _, h, _ => by simp at h
 | _ :: _ :: _ :: _ :: _, [_, _, _], h, _ => by simp at h
 | _, _ :: _ :: _ :: _ :: _ :: _, _, h => by simp at h
 | _ :: _ :: _ :: _ :: _ :: _, [_, _, _, _], h, _ => by simp at h
theorem neCh0 {x y : Operand} {t : TypeId} {a0 b0 a1 b1 a2 b2 a3 b3 : Int} (hx : ρ x = .agg #[.int .i64 a0, .int .i64 a1, .int .i64 a2, .int .i64 a3]) (hy : ρ y = .agg #[.int .i64 b0, .int .i64 b1, .int .i64 b2, .int .i64 b3]) : Y Tryz.prog ρ (.binOp .neq 125 x y t) ty w (.bool (!(decide (a0 = b0) && decide (a1 = b1) && decide (a2 = b2) && decide (a3 = b3)))) w := by
 have hg := run_eqGuard_agg (P := Tryz.prog) w .neq 125 x y #[.int .i64 a0, .int .i64 a1, .int .i64 a2, .int .i64 a3] #[.int .i64 b0, .int .i64 b1, .int .i64 b2, .int .i64 b3] (by kernel_rfl)
 have he := run_neq_struct (P := Tryz.prog) w 125 #[.int .i64 a0, .int .i64 a1, .int .i64 a2, .int .i64 a3] #[.int .i64 b0, .int .i64 b1, .int .i64 b2, .int .i64 b3]
 rw [eqInCh] at he
 simp only [Result.andThen_ok] at he
 simp [Y, xop, execOp, hx, hy, hg, he]
theorem neCh {x y : Operand} {t : TypeId} {a b : List Int} (hx : ρ x = .agg (chC a).toArray) (hy : ρ y = .agg (chC b).toArray) (hl : a.length = b.length) (h4 : b.length ≤ 4) : Y Tryz.prog ρ (.binOp .neq 125 x y t) ty w (.bool (decide (a ≠ b))) w :=
 Y.to (neCh0 hx hy) (by rw [chC_inj hl h4]; simp)
end Go.Proofs.YtchbdfcbogjhcaaGreatDoor
namespace Bx
open Go Go.RowKit
section
variable {w : World} {frm : Int} {B : TypeId} {v : Value} {bs : List Bo} {ms ls hs : List Value}
theorem bxCs_get : ∀ {cs : List (List Int)} {ms ls hs : List Value} {k : Nat}, k < cs.length → ms.length = cs.length → ls.length = cs.length → hs.length = cs.length → (bxCs frm cs ms ls hs)[k]? = some (bxC frm (cs.getD k []) (ms.getD k undef) (ls.getD k undef) (hs.getD k undef))
  | c :: cs, m :: ms, l :: ls, h :: hs, 0, _, _, _, _ => rfl
  | c :: cs, m :: ms, l :: ls, h :: hs, k + 1, hk, h1, h2, h3 => by
    show (bxCs frm cs ms ls hs)[k]? = _
    rw [bxCs_get (k := k) (by simpa using hk) (by simpa using h1) (by simpa using h2) (by simpa using h3)]
    rfl
  | [], _, _, _, _, hk, _, _, _ => by simp at hk
  | _ :: _, [], _, _, _, _, h, _, _ => by simp at h
  | _ :: _, _ :: _, [], _, _, _, _, h, _ => by simp at h
  | _ :: _, _ :: _, _ :: _, [], _, _, _, _, h => by simp at h
theorem bxCs_w {cs : List (List Int)} {ms ls hs : List Value} : ∀ x ∈ bxCs frm cs ms ls hs, x.length = 9 := by
 induction cs generalizing ms ls hs with
 | nil => intro x hx; cases ms <;> cases ls <;> cases hs <;> simp [bxCs] at hx
 | cons c cs ih => intro x hx; cases ms <;> cases ls <;> cases hs <;> simp only [bxCs, List.not_mem_nil, List.mem_cons] at hx; rcases hx with rfl | hx; rfl; exact ih x hx
theorem flatten_at {k : Nat} : ∀ {css : List (List Value)} {i : Nat} {cs : List Value}, (∀ x ∈ css, x.length = k) → css[i]? = some cs → ∀ j u, cs[j]? = some u → css.flatten[i * k + j]? = some u
  | c :: css, 0, cs, hw, h, j, u, hu => by
    obtain rfl : c = cs := by simpa using h
    have hj := (List.getElem?_eq_some_iff.1 hu).1
    rw [List.flatten_cons, Nat.zero_mul, Nat.zero_add, List.getElem?_append_left hj]; exact hu
  | c :: css, i + 1, cs, hw, h, j, u, hu => by
    have hc := hw c (List.mem_cons_self ..)
    rw [List.flatten_cons, List.getElem?_append_right (by rw [hc, Nat.succ_mul]; omega), show (i + 1) * k + j - c.length = i * k + j by rw [hc, Nat.succ_mul]; omega]
    exact flatten_at (fun x hx => hw x (List.mem_cons_of_mem _ hx)) (by simpa using h) j u hu
  | [], _, _, _, h, _, _, _ => by simp at h
theorem bx_cells {n cap : Nat} {a : Option Addr} (hrow : w.ownsRow 0 B 9 (.slice a n cap) n (bxCs frm (bs.map Bo.mem) ms ls hs).flatten) {k : Nat} (hk : k < bs.length) (hn : bs.length = n) (h1 : ms.length = bs.length) (h2 : ls.length = bs.length) (h3 : hs.length = bs.length) :
    ∃ g, a = some ⟨g, 0, none⟩ ∧ Cells w g (k * 9) (bxC frm (boxAt bs k).mem (ms.getD k undef) (ls.getD k undef) (hs.getD k undef)) := by
  obtain ⟨g, rfl, hc⟩ := row_get hrow (by omega)
  refine ⟨g, rfl, fun j u hu => ?_⟩
  have hg := bxCs_get (frm := frm) (cs := bs.map Bo.mem) (ms := ms) (ls := ls) (hs := hs) (k := k) (by simpa using hk) (by simpa using h1) (by simpa using h2) (by simpa using h3)
  have e : (bs.map Bo.mem).getD k [] = (boxAt bs k).mem := by
    unfold boxAt
    simp [List.getD, hk]
  rw [e] at hg
  have := hc _ _ (flatten_at bxCs_w hg j u hu)
  rwa [Nat.zero_add] at this
theorem in_sl {f : Bo → List Int} {vs : List Value} (hi : ∀ it ∈ inI vs (bs.map f), it.ok w) (hl : vs.length = bs.length) {k : Nat} (hk : k < bs.length) (hb : ∀ x ∈ f (boxAt bs k), I64 x) : Sl w 1 RInt (vs.getD k undef) (f (boxAt bs k)) := by
 have h1 : vs[k]? = some (vs.getD k undef) := by simp [List.getD, show k < vs.length by omega]
 have h2 : (bs.map f)[k]? = some (f (boxAt bs k)) := by rw [List.getElem?_map, boxAt_get hk]; rfl
 have h3 : w.ownsRow 0 3 1 (vs.getD k undef) (f (boxAt bs k)).length ((f (boxAt bs k)).flatMap encI) := hi _ (inI_get h1 h2)
 exact sl_ints h3 rfl hb
theorem bx_sl {n : Nat} (hrow : w.ownsRow 0 B 9 v n (bxCs frm (bs.map Bo.mem) ms ls hs).flatten) (hn : bs.length = n) (h1 : ms.length = bs.length) (h2 : ls.length = bs.length) (h3 : hs.length = bs.length) (hb : ∀ b ∈ bs, b.mem.length ≤ 4 ∧ (∀ x ∈ b.mem, I64 x) ∧ (∀ x ∈ lowB b, I64 x) ∧ ∀ x ∈ highB b, I64 x)
    (i1 : ∀ it ∈ inI ms (bs.map Bo.mem), it.ok w) (i2 : ∀ it ∈ inI ls (bs.map lowB), it.ok w) (i3 : ∀ it ∈ inI hs (bs.map highB), it.ok w) : Sl w 9 (RBx frm) v bs :=
  sl_of_row hrow (bxCs_rows h1 h2 h3 hb i1 i2 i3) hn
def keepK (all : List Bo) (k : Nat) : List Nat := (List.range k).filter fun i => !outBx all i (boxAt all i)
def posC (frm : Int) (all : List Bo) (hs : List Value) (k : Nat) : List Value := (keepK all k).flatMap fun i => [.int .i64 frm, hs.getD i undef]
theorem posK_eq (all : List Bo) (k : Nat) : posK all k = (keepK all k).map fun i => highB (boxAt all i) := rfl
theorem keepK_lt {all : List Bo} {k i : Nat} (h : i ∈ keepK all k) : i < k := List.mem_range.1 (List.mem_filter.1 h).1
theorem keepK_yes {all : List Bo} {k : Nat} (h : outBx all k (boxAt all k) = false) : keepK all (k + 1) = keepK all k ++ [k] := by
 unfold keepK
 rw [List.range_succ, List.filter_append]
 simp [h]
theorem keepK_no {all : List Bo} {k : Nat} (h : outBx all k (boxAt all k) = true) : keepK all (k + 1) = keepK all k := by
 unfold keepK
 rw [List.range_succ, List.filter_append]
 simp [h]
theorem posK_yes {all : List Bo} {k : Nat} (h : outBx all k (boxAt all k) = false) : (posK all (k + 1)).length = (posK all k).length + 1 := by rw [posK_eq, posK_eq, keepK_yes h]; simp
theorem posK_no {all : List Bo} {k : Nat} (h : outBx all k (boxAt all k) = true) : posK all (k + 1) = posK all k := by rw [posK_eq, posK_eq, keepK_no h]
theorem posC_yes {all : List Bo} {k : Nat} (h : outBx all k (boxAt all k) = false) : posC frm all hs (k + 1) = posC frm all hs k ++ [.int .i64 frm, hs.getD k undef] := by unfold posC; rw [keepK_yes h]; simp
theorem posC_no {all : List Bo} {k : Nat} (h : outBx all k (boxAt all k) = true) : posC frm all hs (k + 1) = posC frm all hs k := by unfold posC; rw [keepK_no h]
theorem posK_le {all : List Bo} {k : Nat} : (posK all k).length ≤ k := by
 rw [posK_eq, List.length_map]
 have := List.length_filter_le (fun i => !outBx all i (boxAt all i)) (List.range k)
 rwa [List.length_range] at this
theorem pos_sl {E : TypeId} {u : Value} {n : Nat} (hrow : w.ownsRow 0 E 2 u n (posC frm bs hs bs.length)) (hn : (posK bs bs.length).length = n) (hfr : I64 frm) (h3 : hs.length = bs.length) (hb : ∀ b ∈ bs, b.mem.length ≤ 4 ∧ (∀ x ∈ b.mem, I64 x) ∧ (∀ x ∈ lowB b, I64 x) ∧ ∀ x ∈ highB b, I64 x)
    (i3 : ∀ it ∈ inI hs (bs.map highB), it.ok w) : Sl w 2 RSer u ((posK bs bs.length).map (Ser.mk frm)) := by
  have key : ∀ is : List Nat, (∀ i ∈ is, i < bs.length) → Bx.Rows w 2 RSer (is.map fun i => [.int .i64 frm, hs.getD i undef]) ((is.map fun i => highB (boxAt bs i)).map (Ser.mk frm)) := by
    intro is
    induction is with
    | nil => intro _; trivial
    | cons i is ih =>
      intro h
      have hi := h i (List.mem_cons_self ..)
      refine ⟨rfl, ⟨_, rfl, hfr, in_sl i3 h3 hi (hb _ (List.mem_of_getElem? (boxAt_get hi))).2.2.2⟩, ih fun j hj => h j (List.mem_cons_of_mem _ hj)⟩
  have hflat : posC frm bs hs bs.length = ((keepK bs bs.length).map fun i => [Value.int .i64 frm, hs.getD i undef]).flatten := by unfold posC; rw [List.flatMap_def]
  rw [hflat] at hrow
  exact sl_of_row hrow (key _ fun i hi => keepK_lt hi) (by rw [List.length_map]; exact hn)
end
end Bx
namespace Go.Proofs.YtchbdfcbogjhcaaGreatDoor
open Go Bx Go.Proofs.Tryz
theorem c_below {f1 f2 : Int} {va vb : Value} {a b : List Int} {w0 : World} (ha : Sl w0 1 RInt va a) (hb : Sl w0 1 RInt vb b) (hl : a.length = b.length) : CV Tryz.prog 37 #[.agg [.int .i64 f1, va].toArray, .agg [.int .i64 f2, vb].toArray] w0 (.bool (belowB a b)) := by
 obtain ⟨aa, ca, rfl, hacap, hamx, -⟩ := id ha
 obtain ⟨ab, cb, rfl, -⟩ := id hb
 refine enQ func37 rfl ntmps37 rfl fun hS => ?_
 refine seq <| region ?_
 refine sbox hS rfl rfl fun b2 w hS => ?_
 refine sbox hS rfl rfl fun b3 w hS => ?_
 refine vA <| nil <| cwQ <| seq <| seq <| region <| sv (fa32_1 rfl) <| vL rfl isAgg30 hS rfl <| sv (yLen rfl underlying30) <| vM <| nil <| cwQ <| block ?_
 refine loop (fun f w zz => ∃ (k : Nat), f 3 = ptQ b3 ∧ f 8 = .slice aa a.length ca ∧ f 9 = .int .i64 (a.length : Int) ∧ f 10 = .int .i64 (k : Int) ∧ StX [] w0 w [blk b3 [.int .i64 f2, .slice ab b.length cb] 32, blk b2 [.int .i64 f1, .slice aa a.length ca] 32] ∧ (k ≤ a.length) ∧ (∀ i, i < k → a.getD i 0 ≤ b.getD i 0) ∧ zz = a.length - k) _ ⟨_, rfl, 0, rfl, rfl, rfl, rfl, hS, (Nat.zero_le _), (fun i hi => absurd hi (Nat.not_lt_zero _)), rfl⟩ ?_
 clear hS
 rintro f w _ ⟨k, h3, h8, h9, h10, hS, hk, hA, rfl⟩
 refine seq <| region <| sv (yLss h10 h9) <| nil <| cwQ <| seq ?_
 refine cond rfl ?_ ?_ <;> intro c11 <;> simp only [BS, ne_eq] at c11
 ·
  have hkl : k < a.length := by omega
  obtain ⟨bx, ox, cx, hax, hlx, hcx, hRx, -⟩ := sl_at ha (show a[k]? = some (a.getD k 0) by simp [hkl])
  obtain ⟨rfl, -⟩ := hRx
  obtain ⟨by0, oy, cy, hay, hly, hcy, hRy, -⟩ := sl_at hb (show b[k]? = some (b.getD k 0) by simp [show k < b.length by omega])
  obtain ⟨rfl, -⟩ := hRy
  refine skip <| cwQ <| seq <| block <| seq <| region <| sv (yMove h10) <| sv (yIxQ h8 hax h10 runUnderlying30 sizeOf3) <| sv (yLd rfl isAgg3 (hcx.ext hS.ext).one) <| vA <| vA <| nil <| cwQ ?_
  refine seq <| region <| vM <| sv (fa32_1 h3) <| vL rfl isAgg30 hS rfl <| vM <| sv (yIxQ rfl hay rfl runUnderlying30 sizeOf3) <| sv (yLd rfl isAgg3 (hcy.ext hS.ext).one) <| sv (yGtr rfl rfl) <| nil <| cwQ ?_
  refine cond rfl ?_ ?_ <;> intro c21 <;> simp only [BS, ne_eq] at c21
  ·
   refine seq <| region <| vA <| nil <| cwQ ?_
   refine wp_ret (blockR (thenR (thenR (blockR (thenR ?_)))))
   exact retV (res1 rfl (congrArg Value.bool (show false = belowB a b from ((Bool.eq_false_iff).2 (fun hh => by have := belowB_iff.1 hh k hkl; omega)).symm))) hS.ext
  refine skip <| cwQ <| region <| sv (yAddQ h10 rfl) <| vM <| nil ?_
  exact ⟨_, _, rfl, ⟨k + 1, h3, h8, h9, rfl, hS, (by omega), (fun i hi => by by_cases e : i = k; subst e; omega; exact hA i (by omega)), rfl⟩, by omega⟩
 obtain rfl : k = a.length := by omega
 refine exit <| cwQ <| seq <| region <| vA <| nil <| cwQ <| wp_ret ?_
 exact retV (res1 rfl (congrArg Value.bool (show true = belowB a b from (belowB_iff.2 hA).symm))) hS.ext
theorem c_EqualI {va vb : Value} {a b : List Int} {w0 : World} (ha : Sl w0 1 RInt va a) (hb : Sl w0 1 RInt vb b) : CV Tryz.prog 39 #[va, vb] w0 (.bool (decide (a = b))) := by
 obtain ⟨aa, ca, rfl, hacap, hamx, -⟩ := id ha
 obtain ⟨ab, cb, rfl, -⟩ := id hb
 refine enQ func39 rfl ntmps39 rfl fun hS => ?_
 refine seq <| region <| vA <| nil <| cwQ <| seq <| seq <| region <| vM <| sv (yLen rfl underlying30) <| vM <| sv (yLen rfl underlying30) <| sv (yNeq rfl rfl) ?_
 refine nil <| cwQ ?_
 refine cond rfl ?_ ?_ <;> intro c10 <;> simp only [BS, ne_eq] at c10
 ·
  refine seq <| region <| vA <| nil <| cwQ ?_
  refine wp_ret (thenR ?_)
  exact retV (res1 rfl (congrArg Value.bool (show false = decide (a = b) from (decide_eq_false (fun e => by rw [e] at c10; exact c10 rfl)).symm))) hS.ext
 have hl : a.length = b.length := by omega
 refine skip <| cwQ <| seq <| seq <| region <| vM <| sv (yLen rfl underlying30) <| vM <| nil <| cwQ <| block <| loop (fun f w zz => ∃ (k : Nat), f 0 = .slice aa a.length ca ∧ f 1 = .slice ab b.length cb ∧ f 12 = .int .i64 (a.length : Int) ∧ f 13 = .int .i64 (k : Int) ∧ StX [] w0 w [] ∧ (k ≤ a.length) ∧ (∀ i, i < k → a[i]? = b[i]?) ∧ zz = a.length - k) _ ⟨_, rfl, 0, rfl, rfl, rfl, rfl, hS, (Nat.zero_le _), (fun i hi => absurd hi (Nat.not_lt_zero _)), rfl⟩ ?_
 clear hS
 rintro f w _ ⟨k, h0, h1, h12, h13, hS, hk, hA, rfl⟩
 refine seq <| region <| sv (yLss h13 h12) <| nil <| cwQ <| seq ?_
 refine cond rfl ?_ ?_ <;> intro c14 <;> simp only [BS, ne_eq] at c14
 ·
  have hkl : k < a.length := by omega
  obtain ⟨bx, ox, cx, hax, hlx, hcx, hRx, -⟩ := sl_at ha (show a[k]? = some (a.getD k 0) by simp [hkl])
  obtain ⟨rfl, -⟩ := hRx
  obtain ⟨by0, oy, cy, hay, hly, hcy, hRy, -⟩ := sl_at hb (show b[k]? = some (b.getD k 0) by simp [show k < b.length by omega])
  obtain ⟨rfl, -⟩ := hRy
  refine skip <| cwQ <| seq <| block <| seq <| region <| sv (yMove h13) <| vA <| nil <| cwQ <| seq <| region_draw mixed (by kernel_rfl) hS <| qv (fun w hS => yMove h0) ?_
  refine qv (fun w hS => yMove rfl) <| qv (fun w hS => yIxQ rfl hax rfl runUnderlying30 sizeOf3) <| qv (fun w hS => yLd rfl isAgg3 (hcx.ext hS.ext).one) <| qv (fun w hS => yMove h1) <| qv (fun w hS => yMove rfl) <| qv (fun w hS => yIxQ rfl hay rfl runUnderlying30 sizeOf3) <| qv (fun w hS => yLd rfl isAgg3 (hcy.ext hS.ext).one) <| qv (fun w hS => yNeq rfl rfl) ?_
  clear hS; refine qnil (fun w hS => ?_)
  refine cwQ ?_
  refine cond rfl ?_ ?_ <;> intro c24 <;> simp only [BS, ne_eq] at c24
  ·
   refine seq <| region <| vA <| nil <| cwQ ?_
   refine wp_ret (blockR (thenR (thenR (blockR (thenR ?_)))))
   exact retV (res1 rfl (congrArg Value.bool (show false = decide (a = b) from (decide_eq_false (fun e => by rw [e] at c24; exact c24 rfl)).symm))) hS.ext
  refine skip <| cwQ <| region <| sv (yAddQ h13 rfl) <| vM <| nil ?_
  exact ⟨_, _, rfl, ⟨k + 1, h0, h1, h12, rfl, hS, (by omega), (fun i hi => by
   by_cases e : i = k
   ·
    subst e
    rw [List.getElem?_eq_getElem hkl, List.getElem?_eq_getElem (show i < b.length by omega)]
    have e1 : a.getD i 0 = a[i] := by simp [hkl]
    have e2 : b.getD i 0 = b[i] := by simp [show i < b.length by omega]
    congr 1; omega
   exact hA i (by omega)), rfl⟩, by omega⟩
 obtain rfl : k = a.length := by omega
 refine exit <| cwQ <| seq <| region <| vA <| nil <| cwQ <| wp_ret ?_
 exact retV (res1 rfl (congrArg Value.bool (show true = decide (a = b) from (decide_eq_true (eq_of_get hl hA)).symm))) hS.ext
theorem c_clo1 {frm : Int} {x bb : Bo} {m l h m2 l2 h2 : Value} {b5 : Nat} {w0 : World} (hb5 : w0.heap[b5]? = some (.cells (bxC frm bb.mem m2 l2 h2).toArray 129 (0, 0))) (hml : x.mem.length = bb.mem.length) (hm4 : bb.mem.length ≤ 4) (hhx : Sl w0 1 RInt h (highB x)) (hhb : Sl w0 1 RInt h2 (highB bb)) (hln : (highB x).length = (highB bb).length) : CV Tryz.prog 36 #[.agg (bxC frm x.mem m l h).toArray, ptQ b5] w0 (.bool ((decide (x.mem ≠ bb.mem) && belowB (highB bb) (highB x)) && !belowB (highB x) (highB bb))) := by
 refine enQ func36 rfl ntmps36 rfl fun hS => ?_
 refine seq <| region ?_
 refine sbox hS rfl rfl fun b2 w hS => ?_
 refine vA <| nil <| cwQ <| seq <| region <| sv (fa129_0 rfl) <| sv (yLdBA rfl isAgg125 sizeOf125 (hS.at _) rfl rfl) <| sv (fa129_0 rfl) <| sv (yLdBA rfl isAgg125 sizeOf125 (hS.ext.get hb5) rfl rfl) <| sv (neCh rfl rfl hml hm4) <| vM ?_
 refine sg rfl rfl rfl (fun g => (fa129_1 rfl)) (fun v10 g10 => ?_)
 refine sg rfl rfl rfl (fun g => (fa127_2 (g10.1 g))) (fun v11 g11 => ?_)
 refine sg rfl rfl rfl (fun g => (yLdBA (g11.1 g) isAgg32 sizeOf32 (hS.ext.get hb5) rfl rfl)) (fun v12 g12 => ?_)
 refine sg rfl rfl rfl (fun g => (fa129_1 rfl)) (fun v13 g13 => ?_)
 refine sg rfl rfl rfl (fun g => (fa127_2 (g13.1 g))) (fun v14 g14 => ?_)
 refine sg rfl rfl rfl (fun g => (yLdBA (g14.1 g) isAgg32 sizeOf32 (hS.at _) rfl rfl)) (fun v15 g15 => ?_)
 refine sgc hS rfl rfl rfl call37 (fun g => (.cons (g12.1 g) (.cons (g15.1 g) .nil))) (fun g => (c_below (hhb.ext RInt.stays hS.ext) (hhx.ext RInt.stays hS.ext) hln.symm)) ?_; clear hS; intro v16 w hS g16
 refine sv (yAnd rfl (fun hB => (g16.1 hB)) rfl) <| vM ?_
 refine sg rfl rfl rfl (fun g => (fa129_1 rfl)) (fun v19 g19 => ?_)
 refine sg rfl rfl rfl (fun g => (fa127_2 (g19.1 g))) (fun v20 g20 => ?_)
 refine sg rfl rfl rfl (fun g => (yLdBA (g20.1 g) isAgg32 sizeOf32 (hS.at _) rfl rfl)) (fun v21 g21 => ?_)
 refine sg rfl rfl rfl (fun g => (fa129_1 rfl)) (fun v22 g22 => ?_)
 refine sg rfl rfl rfl (fun g => (fa127_2 (g22.1 g))) (fun v23 g23 => ?_)
 refine sg rfl rfl rfl (fun g => (yLdBA (g23.1 g) isAgg32 sizeOf32 (hS.ext.get hb5) rfl rfl)) (fun v24 g24 => ?_)
 refine sgc hS rfl rfl rfl call37 (fun g => (.cons (g21.1 g) (.cons (g24.1 g) .nil))) (fun g => (c_below (hhx.ext RInt.stays hS.ext) (hhb.ext RInt.stays hS.ext) hln)) ?_; clear hS; intro v25 w hS g25
 refine sg rfl rfl rfl (fun g => (yNot (g25.1 g))) (fun v26 g26 => ?_)
 refine sv (yAnd rfl (fun hB => (g26.1 hB)) rfl) <| vA <| nil <| cwQ <| wp_ret ?_
 exact rvQ hS
theorem c_clo2 {frm : Int} {x bb : Bo} {m l h m2 l2 h2 : Value} {b5 : Nat} {w0 : World} (hb5 : w0.heap[b5]? = some (.cells (bxC frm bb.mem m2 l2 h2).toArray 129 (0, 0))) (hml : x.mem.length = bb.mem.length) (hm4 : bb.mem.length ≤ 4) (hhx : Sl w0 1 RInt h (highB x)) (hhb : Sl w0 1 RInt h2 (highB bb)) (hln : (highB x).length = (highB bb).length) : CV Tryz.prog 38 #[.agg (bxC frm x.mem m l h).toArray, ptQ b5] w0 (.bool (decide (highB x = highB bb))) := by
 refine enQ func38 rfl ntmps38 rfl fun hS => ?_
 refine seq <| region ?_
 refine sbox hS rfl rfl fun b2 w hS => ?_
 refine vA <| nil <| cwQ <| seq <| region <| sv (fa129_1 rfl) <| sv (fa127_2 rfl) <| sv (fa32_1 rfl) <| vL rfl isAgg30 hS rfl <| sv (fa129_1 rfl) <| sv (fa127_2 rfl) <| sv (fa32_1 rfl) <| sv (yLdB rfl isAgg30 (hS.ext.get hb5) rfl) ?_
 refine scV hS call39 e2 (c_EqualI (hhx.ext RInt.stays hS.ext) (hhb.ext RInt.stays hS.ext)) fun w hS => ?_
 refine vA <| nil <| cwQ <| wp_ret ?_
 exact rvQ hS
theorem c_IndexBox {frm : Int} {l : List Bo} {p : Bo → Bool} {v : Value} {g : Nat} {cl : List Value} {w0 : World} (hsl : Sl w0 9 (RBx frm) v l) (hcall : ∀ ys w, (callFunc g ys).run Tryz.prog w = .ok (.enter g ys) w) (hp : ∀ x cs w, x ∈ l → Ext w0 w → (RBx frm) w cs x → CV Tryz.prog g (.agg cs.toArray :: cl).toArray w (.bool (p x))) : CV Tryz.prog 69 #[v, .func (.func g) #[] cl.toArray] w0 (.int .i64 (idxF p l 0)) := by
 obtain ⟨a, cap, rfl, hcap, hmx, hel⟩ := hsl
 refine enQ func69 rfl ntmps69 rfl fun hS => ?_
 refine seq <| region <| vA <| nil <| cwQ <| seq <| seq <| region <| vM <| sv (yLen rfl underlying122) <| vM <| nil <| cwQ ?_
 refine block <| loop (fun f w zz => ∃ (k : Nat), f 0 = .slice a l.length cap ∧ f 1 = .func (.func g) #[] cl.toArray ∧ f 7 = .int .i64 (l.length : Int) ∧ f 8 = .int .i64 (k : Int) ∧ StX [] w0 w [] ∧ (k ≤ l.length) ∧ (idxF p l 0 = idxF p (l.drop k) k) ∧ zz = l.length - k) _ ⟨_, rfl, 0, rfl, rfl, rfl, rfl, hS, (Nat.zero_le _), (rfl), rfl⟩ ?_
 clear hS
 rintro f w _ ⟨k, h0, h1, h7, h8, hS, hk, hI, rfl⟩
 refine seq <| region <| sv (yLss h8 h7) <| nil <| cwQ <| seq ?_
 refine cond rfl ?_ ?_ <;> intro c9 <;> simp only [BS, ne_eq] at c9
 ·
  refine skip <| cwQ <| seq <| block <| seq <| region <| sv (yMove h8) <| vA <| nil <| cwQ <| seq <| region ?_
  obtain ⟨x, hx, hd⟩ := drop_of (l := l) (k := k) (by omega)
  obtain ⟨b, o, cs, ha, hlen, hcs, hR⟩ := hel k (by omega)
  obtain rfl : x = l[k] := (List.getElem?_eq_some_iff.1 hx).2.symm
  refine sv (yMove h1) <| sv (yMove h0) <| vM <| sv (yIxQ rfl ha rfl runUnderlying122 sizeOf129) <| sv (yLdA rfl isAgg129 sizeOf129 (hcs.ext hS.ext) hlen) ?_
  refine scallf rfl hcall e1 (hp _ _ _ (List.getElem_mem _) hS.ext (RBx.stays frm _ _ _ _ hS.ext hR)) ?_
  rintro _ w ⟨rfl, hE⟩; replace hS := hS.step hE; clear hE
  refine nil <| cwQ ?_
  refine cond rfl (fun c16 => ?_) (fun c16 => ?_)
  ·
   refine seq <| region <| vM <| vA <| nil <| cwQ ?_
   refine wp_ret (blockR (thenR (thenR (blockR (thenR ?_)))))
   exact retV (res1 rfl (by rw [hI, hd, idxF, if_pos c16]; rfl)) hS.ext
  refine skip <| cwQ <| region <| sv (yAddQ h8 rfl) <| vM <| nil ?_
  exact ⟨_, _, rfl, ⟨k + 1, h0, h1, h7, rfl, hS, (by omega), (by rw [hI, hd, idxF, if_neg (by simp [c16])]; rfl), rfl⟩, by omega⟩
 refine exit <| cwQ <| seq <| region <| vA <| nil <| cwQ ?_
 obtain rfl : k = l.length := by omega
 refine wp_ret ?_
 exact retV (res1 rfl (by rw [hI, List.drop_length]; rfl)) hS.ext
theorem c_ContainsBox {frm : Int} {l : List Bo} {p : Bo → Bool} {v : Value} {g : Nat} {cl : List Value} {w0 : World} (hsl : Sl w0 9 (RBx frm) v l) (hcall : ∀ ys w, (callFunc g ys).run Tryz.prog w = .ok (.enter g ys) w) (hp : ∀ x cs w, x ∈ l → Ext w0 w → (RBx frm) w cs x → CV Tryz.prog g (.agg cs.toArray :: cl).toArray w (.bool (p x))) : CV Tryz.prog 35 #[v, .func (.func g) #[] cl.toArray] w0 (.bool (l.any p)) := by
 refine enQ func35 rfl ntmps35 rfl fun hS => ?_
 refine seq <| region <| vA <| nil <| cwQ <| seq <| region <| vM <| vM ?_
 refine scV hS call69 e2 (c_IndexBox hsl hcall hp) fun w hS => ?_
 refine sv (yGeq rfl rfl) <| vA <| nil <| cwQ <| wp_ret ?_
 exact retV (res1 rfl (by rw [← idxF_any p l 0 (Int.le_refl 0)]; rfl)) hS.ext
end Go.Proofs.YtchbdfcbogjhcaaGreatDoor
namespace Bx
open Go Go.RowKit
section
variable {w : World} {frm : Int} {B : TypeId} {bs : List Bo} {ms ls hs : List Value}
theorem bx_at {n cap : Nat} {a : Option Addr} (hrow : w.ownsRow 0 B 9 (.slice a n cap) n (bxCs frm (bs.map Bo.mem) ms ls hs).flatten) {k : Nat} (hk : k < bs.length) (hn : bs.length = n) (h1 : ms.length = bs.length) (h2 : ls.length = bs.length) (h3 : hs.length = bs.length) (hb : ∀ b ∈ bs, b.mem.length ≤ 4 ∧ (∀ x ∈ b.mem, I64 x) ∧ (∀ x ∈ lowB b, I64 x) ∧ ∀ x ∈ highB b, I64 x)
    (i1 : ∀ it ∈ inI ms (bs.map Bo.mem), it.ok w) (i2 : ∀ it ∈ inI ls (bs.map lowB), it.ok w) (i3 : ∀ it ∈ inI hs (bs.map highB), it.ok w) :
    ∃ g am cm al cl ah ch, a = some ⟨g, 0, none⟩ ∧ Cells w g (0 + k * 9) (bxC frm (boxAt bs k).mem (.slice am (boxAt bs k).mem.length cm) (.slice al (lowB (boxAt bs k)).length cl) (.slice ah (highB (boxAt bs k)).length ch)) ∧ (ms.getD k undef = .slice am (boxAt bs k).mem.length cm ∧ ls.getD k undef = .slice al (lowB (boxAt bs k)).length cl ∧ hs.getD k undef = .slice ah (highB (boxAt bs k)).length ch) ∧
      Sl w 1 RInt (.slice am (boxAt bs k).mem.length cm) (boxAt bs k).mem ∧ Sl w 1 RInt (.slice al (lowB (boxAt bs k)).length cl) (lowB (boxAt bs k)) ∧ Sl w 1 RInt (.slice ah (highB (boxAt bs k)).length ch) (highB (boxAt bs k)) := by
  obtain ⟨g, rfl, hc⟩ := bx_cells hrow hk hn h1 h2 h3
  have hbk := hb _ (List.mem_of_getElem? (boxAt_get hk))
  have s1 := in_sl (f := Bo.mem) i1 h1 hk hbk.2.1
  have s2 := in_sl (f := lowB) i2 h2 hk hbk.2.2.1
  have s3 := in_sl (f := highB) i3 h3 hk hbk.2.2.2
  obtain ⟨am, cm, e1, -⟩ := id s1
  obtain ⟨al, cl, e2, -⟩ := id s2
  obtain ⟨ah, ch, e3, -⟩ := id s3
  rw [e1] at s1
  rw [e2] at s2
  rw [e3] at s3
  rw [e1, e2, e3, ← Nat.zero_add (k * 9)] at hc
  exact ⟨g, am, cm, al, cl, ah, ch, rfl, hc, ⟨e1, e2, e3⟩, s1, s2, s3⟩
theorem out_no {all : List Bo} {i : Nat} {b : Bo} (h : ((!(all.any fun x => (decide (x.mem ≠ b.mem) && belowB (highB b) (highB x)) && !belowB (highB x) (highB b))) && !((all.take i).any fun x => decide (highB x = highB b))) = true) : outBx all i b = false := by
 unfold outBx
 simp only [Bool.and_eq_true, Bool.not_eq_true'] at h
 rw [h.1, h.2]; rfl
theorem out_yes {all : List Bo} {i : Nat} {b : Bo} (h : ¬ ((!(all.any fun x => (decide (x.mem ≠ b.mem) && belowB (highB b) (highB x)) && !belowB (highB x) (highB b))) && !((all.take i).any fun x => decide (highB x = highB b))) = true) : outBx all i b = true := by
 cases hc : outBx all i b with
 | true => rfl
 | false =>
  exfalso; apply h
  unfold outBx at hc
  simp only [Bool.or_eq_false_iff] at hc
  rw [hc.1, hc.2]; rfl
theorem pos_el {E : TypeId} {i : Nat} (hi : i < (posK bs bs.length).length) (h3 : hs.length = bs.length) (hb : ∀ b ∈ bs, b.mem.length ≤ 4 ∧ (∀ x ∈ b.mem, I64 x) ∧ (∀ x ∈ lowB b, I64 x) ∧ ∀ x ∈ highB b, I64 x) : ∃ vi, ∀ (w2 : World) (u : Value), w2.ownsRow 0 E 2 u (posK bs bs.length).length (posC frm bs hs bs.length) → (∀ it ∈ inI hs (bs.map highB), it.ok w2) →
    (∃ g cap, u = .slice (some ⟨g, 0, none⟩) (posK bs bs.length).length cap ∧ Cells w2 g (0 + i * 2) [.int .i64 frm, vi]) ∧ Sl w2 1 RInt vi ((posK bs bs.length).getD i []) := by
  have hl : (posK bs bs.length).length = (keepK bs bs.length).length := by rw [posK_eq, List.length_map]
  have hk : (keepK bs bs.length)[i]? = some ((keepK bs bs.length).getD i 0) := by simp [List.getD, show i < (keepK bs bs.length).length by omega]
  have hj := keepK_lt (List.mem_of_getElem? hk)
  have he : (posK bs bs.length).getD i [] = highB (boxAt bs ((keepK bs bs.length).getD i 0)) := by
    rw [posK_eq, List.getD_eq_getElem?_getD, List.getElem?_map, hk]; rfl
  refine ⟨hs.getD ((keepK bs bs.length).getD i 0) undef, fun w2 u hrow h4 => ⟨?_, ?_⟩⟩
  · obtain ⟨g, cap, hu, -, -, hc⟩ := row_some hrow (by omega)
    refine ⟨g, cap, hu, fun q x hq => ?_⟩
    have hf : posC frm bs hs bs.length = ((keepK bs bs.length).map fun i => [Value.int .i64 frm, hs.getD i undef]).flatten := by unfold posC; rw [List.flatMap_def]
    have := hc _ _ (by rw [hf]; exact flatten_at (k := 2) (fun x hx => by obtain ⟨j, -, rfl⟩ := List.mem_map.1 hx; rfl) (by rw [List.getElem?_map, hk]; rfl) q x hq)
    rw [Nat.zero_add] at this
    rwa [Nat.zero_add]
  · rw [he]
    exact in_sl h4 h3 hj (hb _ (List.mem_of_getElem? (boxAt_get hj))).2.2.2
end
end Bx
namespace Go.Proofs.YtchbdfcbogjhcaaGreatDoor
open Go Bx Go.Proofs.Tryz
theorem c_possible {t : Sgt} {now : Int} {cv ov : Value} {ag ak ae aw ax : Option Addr} {cg ck ce cw cx bk mo : Nat} {os : List Span} {w0 w : World} {L9 : List Bx.Item} (h : RSgt w0 (scQ t cv ag ak ae cg ck ce) t) (hok : SgOk t) (hnow : Bd now 0 200000) (hg : Glb w0) (hown : (os = [] ∧ mo = 0 ∧ ov = .slice none 0 0) ∨ (os = baseS t now ∧ mo = t.ticks.toNat)) (hS : StX [] w0 w (blk bk (knQ t now cv ag ak ae cg ck ce aw cw ax cx ov) 115 :: rowI (ov) 69 2 mo ((os).flatMap spanC) :: rowI (.slice aw t.ticks.toNat cw) 69 2 t.ticks.toNat ((tidesS t).flatMap spanC) :: rowI (.slice ax t.ctrs.length cx) 3 1 t.ctrs.length ((curS t now).flatMap Bx.encI) :: L9)) : CE Tryz.prog 11 #[ptQ bk] w (fun u w' => ∃ ov' its, (∀ w2 : World, (∀ it ∈ its, it.ok w2) → Sl w2 2 RSer u ((posS t now).map (Ser.mk t.frm))) ∧ (∀ i, i < (posS t now).length → ∃ vi, ∀ w2 : World, (∀ it ∈ its, it.ok w2) → (∃ g cap, u = .slice (some ⟨g, 0, none⟩) (posS t now).length cap ∧ Cells w2 g (0 + i * 2) [.int .i64 t.frm, vi]) ∧ Sl w2 1 RInt vi ((posS t now).getD i [])) ∧ StX [] w0 w' (packI its :: blk bk (knQ t now cv ag ak ae cg ck ce aw cw ax cx ov') 115 :: rowI (ov') 69 2 t.ticks.toNat ((baseS t now).flatMap spanC) :: rowI (.slice aw t.ticks.toNat cw) 69 2 t.ticks.toNat ((tidesS t).flatMap spanC) :: rowI (.slice ax t.ctrs.length cx) 3 1 t.ctrs.length ((curS t now).flatMap Bx.encI) :: L9)) := by
 obtain ⟨hT, hG, hw64, hf64, hk64, hC, hF, hl64, hm64, hr64, hq64⟩ := RSgt.parts h
 refine enter func11 rfl ntmps11 rfl ?_
 skip
 refine seq <| region <| vA <| nil <| cwQ <| seq <| region <| vM ?_
 refine scall call34 e1 (c_boxes h hok hnow hg hown hS) ?_
 rintro bv w ⟨ov', ms, ls, hs, hl1, hl2, hl3, hM⟩; clear hS; have hS := hM; clear hM
 obtain ⟨av, cv2, rfl⟩ := row_shape (hS.row bv)
 have hbn : (boxS t now).length ≤ 625 := Nat.le_trans boxL_len (cho_bd hok)
 refine vA <| nil <| cwQ <| seq <| seq <| region <| vM <| sv (yLen rfl underlying122) <| vM <| nil <| cwQ <| block <| loop (fun f w zz => ∃ (k : Nat) (pv : Value), f 2 = pv ∧ f 3 = .slice av (boxS t now).length cv2 ∧ f 8 = .slice av (boxS t now).length cv2 ∧ f 9 = .int .i64 ((boxS t now).length : Int) ∧ f 10 = .int .i64 (k : Int) ∧ StX [] w0 w (rowI pv 32 2 (posK (boxS t now) k).length (posC t.frm (boxS t now) hs k) :: rowI (.slice av (boxS t now).length cv2) 129 9 (boxS t now).length (bxCs t.frm ((boxS t now).map Bo.mem) ms ls hs).flatten :: packI (inI ms ((boxS t now).map Bo.mem)) :: packI (inI ls ((boxS t now).map lowB)) :: packI (inI hs ((boxS t now).map highB)) :: blk bk (knQ t now cv ag ak ae cg ck ce aw cw ax cx ov') 115 :: rowI (ov') 69 2 t.ticks.toNat ((baseS t now).flatMap spanC) :: rowI (.slice aw t.ticks.toNat cw) 69 2 t.ticks.toNat ((tidesS t).flatMap spanC) :: rowI (.slice ax t.ctrs.length cx) 3 1 t.ctrs.length ((curS t now).flatMap Bx.encI) :: L9) ∧ (k ≤ (boxS t now).length) ∧ zz = (boxS t now).length - k) _ ⟨_, rfl, 0, _, rfl, rfl, rfl, rfl, rfl, (hS.nilrow 32 2), (Nat.zero_le _), rfl⟩ ?_
 clear hS
 rintro f w _ ⟨k, pv, h2, h3, h8, h9, h10, hS, hk, rfl⟩
 refine seq <| region <| sv (yLss h10 h9) <| nil <| cwQ <| seq ?_
 refine cond rfl ?_ ?_ <;> intro c11 <;> simp only [BS, ne_eq] at c11
 ·
  have hkn : k < (boxS t now).length := by omega
  obtain ⟨gb, am, cm, al, cl, ah, ch, hgb, hcb, hes, -, -, hsh0⟩ := (bx_at (hS.row (.slice av (boxS t now).length cv2)) hkn rfl hl1 hl2 hl3 (fun b hb => box_ok hok hb) (hS.ok (packI (inI ms ((boxS t now).map Bo.mem))) (by simp)) (hS.ok (packI (inI ls ((boxS t now).map lowB))) (by simp)) (hS.ok (packI (inI hs ((boxS t now).map highB))) (by simp)))
  have hpl : (posK (boxS t now) k).length ≤ k := posK_le
  have hbk : (boxAt (boxS t now) k) ∈ boxS t now := List.mem_of_getElem? (boxAt_get hkn)
  have hB0 := (bx_sl (hS.row (.slice av (boxS t now).length cv2)) rfl hl1 hl2 hl3 (fun b hb => box_ok hok hb) (hS.ok (packI (inI ms ((boxS t now).map Bo.mem))) (by simp)) (hS.ok (packI (inI ls ((boxS t now).map lowB))) (by simp)) (hS.ok (packI (inI hs ((boxS t now).map highB))) (by simp)))
  obtain ⟨_, _, heq, hbc, hbm, -⟩ := id hB0
  cases heq
  refine skip <| cwQ <| seq <| block <| seq <| region <| sv (yMove h10) <| sv (yIxQ h8 hgb h10 runUnderlying122 sizeOf129) <| sv (yLdA rfl isAgg129 sizeOf129 hcb rfl) ?_
  refine salloc hS zeroValue129 rfl fun b5 w hS => ?_
  refine vA ?_
  refine sS hS rfl sizeOf129 fun w hS => ?_
  refine nil <| cwQ <| seq <| region ?_
  have hB := (bx_sl (hS.row (.slice av (boxS t now).length cv2)) rfl hl1 hl2 hl3 (fun b hb => box_ok hok hb) (hS.ok (packI (inI ms ((boxS t now).map Bo.mem))) (by simp)) (hS.ok (packI (inI ls ((boxS t now).map lowB))) (by simp)) (hS.ok (packI (inI hs ((boxS t now).map highB))) (by simp)))
  have hsh := in_sl (f := highB) (bs := boxS t now) (k := k) (hS.ok (packI (inI hs ((boxS t now).map highB))) (by simp)) hl3 hkn (box_ok hok hbk).2.2.2
  rw [hes.2.2] at hsh
  refine sv (yMove h3) <| sv (yFn e1) ?_
  refine scall call35 e2 (c_ContainsBox (p := fun x => (decide (x.mem ≠ (boxAt (boxS t now) k).mem) && belowB (highB (boxAt (boxS t now) k)) (highB x)) && !belowB (highB x) (highB (boxAt (boxS t now) k))) (g := 36) (cl := [ptQ b5]) hB call36 (fun x cs w2 hx he hR => by
   have hx := hx
   obtain ⟨m2, l2, h2, rfl, hx4, -, -, hhx⟩ := hR
   exact c_clo1 (he.get (hS.at b5)) ((box_len hx).2.trans (box_len hbk).2.symm) (box_ok hok hbk).1 hhx (hsh.ext RInt.stays he) ((high_len hx).1.trans (high_len hbk).1.symm))) ?_
  rintro _ w ⟨rfl, hE⟩; replace hS := hS.step hE; clear hE
  refine sv (yNot rfl) ?_
  have hB := (bx_sl (hS.row (.slice av (boxS t now).length cv2)) rfl hl1 hl2 hl3 (fun b hb => box_ok hok hb) (hS.ok (packI (inI ms ((boxS t now).map Bo.mem))) (by simp)) (hS.ok (packI (inI ls ((boxS t now).map lowB))) (by simp)) (hS.ok (packI (inI hs ((boxS t now).map highB))) (by simp)))
  have hsh := in_sl (f := highB) (bs := boxS t now) (k := k) (hS.ok (packI (inI hs ((boxS t now).map highB))) (by simp)) hl3 hkn (box_ok hok hbk).2.2.2
  rw [hes.2.2] at hsh
  refine vM ?_
  refine sg rfl rfl rfl (fun g => (yMove h3)) (fun v20 g20 => ?_)
  refine sg rfl rfl rfl (fun g => (yMove rfl)) (fun v21 g21 => ?_)
  refine sg rfl rfl rfl (fun g => (yTo (i := k) (g20.1 g) (g21.1 g) underlying122 sizeOf129 (by omega))) (fun v22 g22 => ?_)
  refine sg rfl rfl rfl (fun g => (yFn e1)) (fun v23 g23 => ?_)
  refine sgc hS rfl rfl rfl call35 (fun g => (.cons (g22.1 g) (.cons (g23.1 g) .nil))) (fun g => (c_ContainsBox (p := fun x => decide (highB x = highB (boxAt (boxS t now) k))) (g := 38) (cl := [ptQ b5]) (Sl.take hB (show k ≤ (boxS t now).length by omega)) call38 (fun x cs w2 hx he hR => by
   have hx := List.mem_of_mem_take hx
   obtain ⟨m2, l2, h2, rfl, hx4, -, -, hhx⟩ := hR
   exact c_clo2 (he.get (hS.at b5)) ((box_len hx).2.trans (box_len hbk).2.symm) (box_ok hok hbk).1 hhx (hsh.ext RInt.stays he) ((high_len hx).1.trans (high_len hbk).1.symm)))) ?_; clear hS; intro v24 w hS g24
  refine sg rfl rfl rfl (fun g => (yNot (g24.1 g))) (fun v25 g25 => ?_)
  refine sv (yAnd rfl (fun hB => (g25.1 hB)) rfl) <| nil <| cwQ ?_
  refine cond rfl (fun c26 => ?_) (fun c26 => ?_)
  ·
   have hout := out_no c26
   refine region <| sv (yMove h2) <| sv (fa129_1 rfl) <| sv (fa127_2 rfl) <| sv (yLdBA rfl isAgg32 sizeOf32 (hS.at _) rfl rfl) ?_
   refine sbslice hS underlying39 sizeOf32 rfl zeroValue32 rfl (.cons rfl rfl .nil) rfl fun b31 w hS => ?_
   refine sapp (bytes := 32) (size := 2) (v := pv) (m := 1) hS rfl rfl underlying39 ti32 rfl rfl rfl rfl (by decide) (blk_cells (hS.at _)) rfl rfl (by omega) (by omega) ?_; clear hS; intro v32 w hS
   refine vA <| nil <| cwQ <| region <| sv (yAddQ h10 rfl) <| vM <| nil ?_
   exact ⟨_, _, rfl, ⟨k + 1, _, rfl, h3, h8, h9, rfl, (by rw [posK_yes hout, posC_yes hout, hes.2.2]; exact hS.sub (.cons _ (.cons _ lrQ))), (by omega), rfl⟩, by omega⟩
  have hout := out_yes (by rw [c26]; decide)
  refine skip <| cwQ <| region <| sv (yAddQ h10 rfl) <| vM <| nil ?_
  exact ⟨_, _, rfl, ⟨k + 1, _, h2, h3, h8, h9, rfl, (by rw [posK_no hout, posC_no hout]; exact hS.sub (.cons _ lrQ)), (by omega), rfl⟩, by omega⟩
 obtain rfl : k = (boxS t now).length := by omega
 refine exit <| cwQ <| seq <| region <| sv (yMove h2) <| vA <| nil <| cwQ <| wp_ret <| retQ (res1 rfl rfl) ?_
 exact ⟨ov', [rowI pv 32 2 (posK (boxS t now) (boxS t now).length).length (posC t.frm (boxS t now) hs (boxS t now).length), rowI (.slice av (boxS t now).length cv2) 129 9 (boxS t now).length (bxCs t.frm ((boxS t now).map Bo.mem) ms ls hs).flatten, packI (inI ms ((boxS t now).map Bo.mem)), packI (inI ls ((boxS t now).map lowB)), packI (inI hs ((boxS t now).map highB))], fun w2 hi => pos_sl (hi (rowI pv 32 2 (posK (boxS t now) (boxS t now).length).length (posC t.frm (boxS t now) hs (boxS t now).length)) (by simp)) rfl hf64 hl3 (fun b hb => box_ok hok hb) (hi (packI (inI hs ((boxS t now).map highB))) (by simp)), fun i hil => by
  obtain ⟨vi, hvi⟩ := pos_el (E := 32) (frm := t.frm) hil hl3 (fun b hb => box_ok hok hb)
  exact ⟨vi, fun w2 hi => hvi w2 _ (hi (rowI pv 32 2 (posK (boxS t now) (boxS t now).length).length (posC t.frm (boxS t now) hs (boxS t now).length)) (by simp)) (hi (packI (inI hs ((boxS t now).map highB))) (by simp))⟩, StX.pack (M := [rowI pv 32 2 (posK (boxS t now) (boxS t now).length).length (posC t.frm (boxS t now) hs (boxS t now).length), rowI (.slice av (boxS t now).length cv2) 129 9 (boxS t now).length (bxCs t.frm ((boxS t now).map Bo.mem) ms ls hs).flatten, packI (inI ms ((boxS t now).map Bo.mem)), packI (inI ls ((boxS t now).map lowB)), packI (inI hs ((boxS t now).map highB))]) hS⟩
end Go.Proofs.YtchbdfcbogjhcaaGreatDoor
namespace Bx
open Go Go.RowKit
theorem its0 {w0 w : World} {L : List Item} (hS : StX [] w0 w L) : StX [] w0 w [packI []] := StX.pack (M := []) (hS.sub (List.nil_sublist _))
theorem its1 {w0 w : World} {x : Item} {L : List Item} (hS : StX [] w0 w (x :: L)) : StX [] w0 w [packI [x]] := StX.pack (M := [x]) (hS.sub (.cons_cons _ (List.nil_sublist _)))
theorem sl_none {α : Type} {w : World} {k : Nat} {R : World → List Value → α → Prop} : Sl w k R (.slice none 0 0) [] := ⟨none, 0, rfl, Nat.le_refl _, by decide, fun i hi => absurd hi (Nat.not_lt_zero _)⟩
structure Bxs where
 mem : List Int
 low : Ser
 high : Ser
def RBxs (w : World) (cs : List Value) (b : Bxs) : Prop := ∃ m l h, cs = [m, .int .i64 b.low.frm, l, .int .i64 b.high.frm, h] ∧ I64 b.low.frm ∧ I64 b.high.frm ∧ Sl w 1 RInt m b.mem ∧ Sl w 1 RInt l b.low.vals ∧ Sl w 1 RInt h b.high.vals
theorem RBxs.stays : Stays RBxs := fun _ _ _ _ e ⟨m, l, h, h1, h2, h3, h4, h5, h6⟩ => ⟨m, l, h, h1, h2, h3, h4.ext RInt.stays e, h5.ext RInt.stays e, h6.ext RInt.stays e⟩
section
variable {w : World} {frm : Int} {bs : List Bo} {ms ls hs : List Value}
end
end Bx
namespace Go.Proofs.YtchbdfcbogjhcaaGreatDoor
open Go Bx Go.Proofs.Tryz
theorem c_Possible {t : Sgt} {cv : Value} {ag ak ae : Option Addr} {cg ck ce : Nat} {now : Int} {w0 : World} (h : RSgt w0 (scQ t cv ag ak ae cg ck ce) t) (hg : Glb w0) (hI : I64 now) : CE Tryz.prog 4 #[.agg (scQ t cv ag ak ae cg ck ce).toArray, .int .i64 now] w0 (fun u w' => ∃ v its, u = .tuple #[v, .int .i64 (posR t now).2] ∧ (∀ w2 : World, (∀ it ∈ its, it.ok w2) → Sl w2 2 RSer v (((posR t now).1).map (Ser.mk t.frm))) ∧ St w0 w' [packI its]) := by
 obtain ⟨hT, hG, hw64, hf64, hk64, hC, hF, hl64, hm64, hr64, hq64⟩ := RSgt.parts h
 refine enQ func4 rfl ntmps4 rfl fun hS => ?_
 refine seq <| region ?_
 refine sbox hS rfl rfl fun b2 w hS => ?_
 refine vA <| vA <| nil <| cwQ <| seq <| region <| sv (yLdBA rfl isAgg29 sizeOf29 (hS.at _) rfl rfl) <| vM ?_
 refine scall call10 e2 (c_with (h.ext hS.ext) hI) ?_
 rintro _ w (⟨he, rfl, hE⟩ | ⟨he, bk, aw, cw, ax, cx, rfl, hM⟩)
 ·
  replace hS := hS.step hE; clear hE
  refine vM <| sv (yExt rfl rfl) <| sv (yExt rfl rfl) <| vA <| vA <| nil <| cwQ <| seq <| seq <| region <| vM <| sv (yNeq rfl rfl) <| nil ?_
  refine cwQ ?_
  refine cond rfl ?_ ?_ <;> intro c15 <;> simp only [BS, ne_eq] at c15
  ·
   refine seq <| region <| vM <| vA <| vA <| nil <| cwQ ?_
   refine wp_ret (thenR ?_)
   refine retQ (res2 rfl rfl rfl) ?_
   have hf : posR t now = ([], askE t now) := by unfold posR; rw [if_pos he]
   rw [hf]
   exact ⟨_, [], rfl, fun _ _ => sl_none, its0 hS⟩
  exact absurd c15 he
 replace hS := hS.call hM; clear hM
 replace hS : StX [] w0 w [blk bk (knQ t now cv ag ak ae cg ck ce aw cw ax cx (.slice none 0 0)) 115, rowI (.slice aw t.ticks.toNat cw) 69 2 t.ticks.toNat ((tidesS t).flatMap spanC), rowI (.slice ax t.ctrs.length cx) 3 1 t.ctrs.length ((curS t now).flatMap Bx.encI), blk b2 (scQ t cv ag ak ae cg ck ce) 29] := hS
 obtain ⟨hok, hnow⟩ := askE_ok he
 have htk := hok.tk
 have hnc := hok.nc
 have hnf := hok.nf
 refine vM <| sv (yExt rfl rfl) <| sv (yExt rfl rfl) <| vA <| vA <| nil <| cwQ <| seq <| seq <| region <| vM <| sv (yNeq rfl rfl) <| nil ?_
 refine cwQ ?_
 refine cond rfl (fun c15 => ?_) (fun c15 => ?_)
 ·
  exact absurd c15 (by decide)
 refine skip <| cwQ <| seq <| region <| vM ?_
 refine scall call11 e1 (c_possible h hok hnow hg (.inl ⟨rfl, rfl, rfl⟩) ((hS.nilrow 69 2).perm (List.Perm.swap _ _ _))) ?_
 rintro bv w ⟨ov', its, hit, -, hM⟩; clear hS; have hS := hM; clear hM
 refine vA <| vA <| nil <| cwQ <| wp_ret <| retQ (res2 rfl rfl rfl) ?_
 have hf : posR t now = (posS t now, 0) := by unfold posR; rw [if_neg (fun k => k he)]
 rw [hf]
 exact ⟨_, its, rfl, fun w2 hi => hit w2 hi, hS.sub (.cons_cons _ (List.nil_sublist _))⟩
end Go.Proofs.YtchbdfcbogjhcaaGreatDoor
namespace Bx
open Go Go.RowKit
theorem has_no {s : List Span} {v : List Int} {k : Nat} (hk : k < s.length) (h : v.getD k 0 < (spn s k).lo ∨ (spn s k).hi < v.getD k 0) : hasS s v = false := by
 cases hc : hasS s v with
 | false => rfl
 | true =>
  have := List.all_eq_true.1 hc k (List.mem_range.2 hk)
  simp only [Bool.not_eq_true', Bool.or_eq_false_iff, decide_eq_false_iff_not] at this
  omega
theorem has_yes {s : List Span} {v : List Int} (h : ∀ i, i < s.length → ¬ (v.getD i 0 < (spn s i).lo ∨ (spn s i).hi < v.getD i 0)) : hasS s v = true := by
 refine List.all_eq_true.2 fun i hi => ?_
 have := h i (List.mem_range.1 hi)
 simp only [Bool.not_eq_true', Bool.or_eq_false_iff, decide_eq_false_iff_not]
 omega
theorem any_succ {p : Nat → Bool} {m : Nat} : (List.range (m + 1)).any p = ((List.range m).any p || p m) := by rw [List.range_succ, List.any_append]; simp
def encB (b : Bool) : List Value := [.bool b]
theorem sl_bools {w : World} {e : TypeId} {v : Value} {n : Nat} {l : List Bool} (h : w.ownsRow 0 e 1 v n (l.flatMap encB)) (hn : l.length = n) : Sl w 1 RBool v l := by
 have hf : l.flatMap encB = (l.map encB).flatten := by rw [List.flatMap_def]
 rw [hf] at h
 refine sl_of_row h ?_ hn
 clear h hn hf
 induction l with
 | nil => trivial
 | cons b l ih => exact ⟨rfl, rfl, ih⟩
section
variable {P : Program} {ops : Array Oper} {Q : Exit → Act → World → Prop} {n : Nat} {f : Fr} {w w0 : World} {S : List Nat} {rest : List Oper} {d : Nat} {ty : TypeId} {pos : String} {af : Array Edge}
theorem ungn {op : Op} {j dj : Nat} {want : Bool} {v : Value} (hd : dstOf ops j = some dj) (hn : Nat.blt dj n = true) (hb : f dj = v) (hv : v ≠ .bool want) (h : wpL P ops Q n rest (upd f d undef) w) : wpL P ops Q n (⟨some d, op, ty, pos, af, some (j, want)⟩ :: rest) f w :=
 wpL_guard (G := False) (v := undef) hd hn ⟨False.elim, fun e => hv (hb.symm.trans e)⟩ (fun g => g.elim) fun v' c => by rw [c.2 id]; exact h
end
section
variable {t : Sgt} {now : Int} {v : List Int}
theorem right_len : (rightS t now v).length = t.ctrs.length := by simp [rightS]
theorem right_get {k : Nat} (h : k < t.ctrs.length) : (rightS t now v)[k]? = some (rightAt t now v k) := by simp [rightS, h]
theorem right_no {k : Nat} (h : ¬ 0 ≤ curOf t now k) : rightAt t now v k = false := by unfold rightAt; rw [decide_eq_false h]; rfl
theorem right_yes {k : Nat} (h : 0 ≤ curOf t now k) : rightAt t now v k = (List.range (fct t.fcs (curOf t now k).toNat).members.length).any fun m => hasS (tubeS t (fct t.fcs (curOf t now k).toNat) (mem (fct t.fcs (curOf t now k).toNat) m)) v := by unfold rightAt; rw [decide_eq_true h]; rfl
theorem cnt_snoc {l : List Bool} {k : Nat} {b : Bool} (h : l[k]? = some b) : (l.take (k + 1)).countP (fun b => b) = (l.take k).countP (fun b => b) + if b = true then 1 else 0 := by rw [take_snoc h, List.countP_append, List.countP_singleton]
theorem cnt_le {l : List Bool} {k : Nat} : (l.take k).countP (fun b => b) ≤ k := by
 have := List.countP_le_length (p := fun b : Bool => b) (l := l.take k)
 rw [List.length_take] at this; omega
end
end Bx
namespace Go.Proofs.YtchbdfcbogjhcaaGreatDoor
open Go Bx Go.Proofs.Tryz
theorem c_has {s : List Span} {v : List Int} {sv vv : Value} {w0 : World} (hs : Sl w0 2 RSpan sv s) (hv : Sl w0 1 RInt vv v) (hl : v.length = s.length) : CV Tryz.prog 54 #[sv, vv] w0 (.bool (hasS s v)) := by
 obtain ⟨a, ca, rfl, hacap, hamx, -⟩ := id hs
 obtain ⟨av, cv, rfl, -⟩ := id hv
 refine enQ func54 rfl ntmps54 rfl fun hS => ?_
 refine seq <| region <| vA <| nil <| cwQ <| seq <| seq <| region <| vM <| sv (yLen rfl underlying113) <| vM <| nil <| cwQ ?_
 refine block <| loop (fun f w zz => ∃ (k : Nat), f 1 = .slice av v.length cv ∧ f 7 = .slice a s.length ca ∧ f 8 = .int .i64 (s.length : Int) ∧ f 9 = .int .i64 (k : Int) ∧ StX [] w0 w [] ∧ (k ≤ s.length) ∧ (∀ i, i < k → ¬ (v.getD i 0 < (spn s i).lo ∨ (spn s i).hi < v.getD i 0)) ∧ zz = s.length - k) _ ⟨_, rfl, 0, rfl, rfl, rfl, rfl, hS, (Nat.zero_le _), (fun i hi => absurd hi (Nat.not_lt_zero _)), rfl⟩ ?_
 clear hS
 rintro f w _ ⟨k, h1, h7, h8, h9, hS, hk, hA, rfl⟩
 refine seq <| region <| sv (yLss h9 h8) <| nil <| cwQ <| seq ?_
 refine cond rfl ?_ ?_ <;> intro c10 <;> simp only [BS, ne_eq] at c10
 ·
  have hkl : k < s.length := by omega
  obtain ⟨bx, ox, cx, hax, hlx, hcx, hRx, -⟩ := sl_at hs (spn_get hkl)
  obtain ⟨rfl, -⟩ := hRx
  obtain ⟨by0, oy, cy, hay, hly, hcy, hRy, -⟩ := sl_at hv (show v[k]? = some (v.getD k 0) by simp [show k < v.length by omega])
  obtain ⟨rfl, -⟩ := hRy
  refine skip <| cwQ <| seq <| block <| seq <| region <| sv (yMove h9) <| sv (yIxQ h7 hax h9 runUnderlying113 sizeOf69) <| sv (yLdA rfl isAgg69 sizeOf69 (hcx.ext hS.ext) rfl) ?_
  refine salloc hS zeroValue69 rfl fun b6 w hS => ?_
  refine vA ?_
  refine sS hS rfl sizeOf69 fun w hS => ?_
  refine nil <| cwQ <| seq <| region_draw mixed (by kernel_rfl) hS <| qv (fun w hS => yMove h1) <| qv (fun w hS => yMove rfl) <| qv (fun w hS => yIxQ rfl hay rfl runUnderlying30 sizeOf3) <| qv (fun w hS => yLd rfl isAgg3 (hcy.ext hS.ext).one) <| qv (fun w hS => fa69_0 rfl) <| qv (fun w hS => yLdB rfl isAgg3 (hS.at _) rfl) <| qv (fun w hS => yLss rfl rfl) <| qv (fun w hS => yMove rfl) ?_
  refine qg rfl rfl rfl (fun g w hS => (yMove h1)) (fun v22 g22 => ?_)
  refine qg rfl rfl rfl (fun g w hS => (yMove rfl)) (fun v23 g23 => ?_)
  refine qg rfl rfl rfl (fun g w hS => (yIxQ (g22.1 g) hay (g23.1 g) runUnderlying30 sizeOf3)) (fun v24 g24 => ?_)
  refine qg rfl rfl rfl (fun g w hS => (yLd (g24.1 g) isAgg3 (hcy.ext hS.ext).one)) (fun v25 g25 => ?_)
  refine qg rfl rfl rfl (fun g w hS => (fa69_1 rfl)) (fun v26 g26 => ?_)
  refine qg rfl rfl rfl (fun g w hS => (yLdB (g26.1 g) isAgg3 (hS.at _) rfl)) (fun v27 g27 => ?_)
  refine qg rfl rfl rfl (fun g w hS => (yGtr (g25.1 g) (g27.1 g))) (fun v28 g28 => ?_)
  refine qv (fun w hS => yOr rfl rfl (fun hB => (g28.1 hB))) ?_
  clear hS; refine qnil (fun w hS => ?_)
  refine cwQ ?_
  refine cond rfl ?_ ?_ <;> intro c29 <;> simp only [BS, ne_eq] at c29
  ·
   refine seq <| region <| vA <| nil <| cwQ ?_
   refine wp_ret (blockR (thenR (thenR (blockR (thenR ?_)))))
   exact retV (res1 rfl (congrArg Value.bool (show false = hasS s v from (has_no hkl c29).symm))) hS.ext
  refine skip <| cwQ <| region <| sv (yAddQ h9 rfl) <| vM <| nil ?_
  exact ⟨_, _, rfl, ⟨k + 1, h1, h7, h8, rfl, (hS.sub (List.nil_sublist _)), (by omega), (fun i hi => by by_cases e : i = k; subst e; omega; exact hA i (by omega)), rfl⟩, by omega⟩
 obtain rfl : k = s.length := by omega
 refine exit <| cwQ <| seq <| region <| vA <| nil <| cwQ <| wp_ret ?_
 exact retV (res1 rfl (congrArg Value.bool (show true = hasS s v from (has_yes hA).symm))) hS.ext
theorem c_right {t : Sgt} {now : Int} {ov : Value} {bk : Nat} {T : TypeId} {w0 : World} (hk : RKn w0 bk T t now ov) (hok : SgOk t) {v : List Int} {vv : Value} (hg : Glb w0) (hv : Sl w0 1 RInt vv v) (hvl : v.length = t.ticks.toNat) : CE Tryz.prog 55 #[ptQ bk, vv] w0 (fun u w' => ∃ rv, u = .tuple #[rv, .int .i64 (((rightS t now v).countP (fun b => b) : Nat) : Int)] ∧ St w0 w' [rowI rv 4 1 t.ctrs.length ((rightS t now v).flatMap encB)]) := by
 obtain ⟨cv, ag, cg, ak, ck, ae, ce, aw, cw, ax, cx, hkb, hT, hG, hC, hF, hW, hX⟩ := id hk
 have hnc := hok.nc
 have hcl := curS_len t now
 refine enQ func55 rfl ntmps55 rfl fun hS => ?_
 refine seq <| region <| vA <| vA <| nil <| cwQ <| seq <| seq <| region <| vM <| sv (yNil rfl) <| sv (fa115_3 rfl) <| sv (yLdB rfl isAgg30 (hS.ext.get hkb) rfl) ?_
 refine sv (yLen rfl underlying30) <| vM <| nil <| cwQ <| block <| loop (fun f w zz => ∃ (k : Nat) (rv : Value), f 0 = ptQ bk ∧ f 1 = vv ∧ f 4 = rv ∧ f 5 = .int .i64 ((((rightS t now v).take k).countP (fun b => b) : Nat) : Int) ∧ f 13 = .slice ax t.ctrs.length cx ∧ f 14 = .int .i64 (t.ctrs.length : Int) ∧ f 15 = .int .i64 (k : Int) ∧ StX [] w0 w [rowI (rv) 4 1 k (((rightS t now v).take k).flatMap encB)] ∧ (k ≤ t.ctrs.length) ∧ zz = t.ctrs.length - k) _ ⟨_, rfl, 0, _, rfl, rfl, rfl, rfl, rfl, rfl, rfl, (hS.nilrow 4 1), (Nat.zero_le _), rfl⟩ ?_
 clear hS
 rintro f w _ ⟨k, rv, h0, h1, h4, h5, h13, h14, h15, hS, hk2, rfl⟩
 refine seq <| region <| sv (yLss h15 h14) <| nil <| cwQ <| seq ?_
 refine cond rfl ?_ ?_ <;> intro c16 <;> simp only [BS, ne_eq] at c16
 ·
  have hkl : k < t.ctrs.length := by omega
  obtain ⟨bq, oq, cq, haq, hlq, hcq, hRq, -⟩ := sl_at hX (curS_get t now hkl)
  obtain ⟨rfl, -⟩ := hRq
  have hcnt : ((rightS t now v).take k).countP (fun b => b) ≤ k := cnt_le
  refine skip <| cwQ <| seq <| block <| seq <| region <| sv (yIxQ h13 haq h15 runUnderlying30 sizeOf3) <| sv (yLd rfl isAgg3 (hcq.ext hS.ext).one) <| vA <| nil <| cwQ <| seq <| region ?_
  refine vA <| nil <| cwQ ?_
  refine seqJ (n := 61) (fun f w => ∃ (rb : Bool), f 0 = ptQ bk ∧ f 1 = vv ∧ f 4 = rv ∧ f 5 = .int .i64 ((((rightS t now v).take k).countP (fun b => b) : Nat) : Int) ∧ f 13 = .slice ax t.ctrs.length cx ∧ f 14 = .int .i64 (t.ctrs.length : Int) ∧ f 15 = .int .i64 (k : Int) ∧ f 8 = .bool rb ∧ StX [] w0 w [rowI (rv) 4 1 k (((rightS t now v).take k).flatMap encB)] ∧ (rightAt t now v k = rb) ∧ True) ?_ ?_
  ·
   refine seq <| region <| vM <| sv (yGeq rfl rfl) <| nil <| cwQ ?_
   refine cond rfl ?_ ?_ <;> intro c20 <;> simp only [BS, ne_eq] at c20
   ·
    obtain ⟨hcf0, hfo⟩ := cur_fct hok (show 0 ≤ curOf t now k by omega)
    obtain ⟨bf, of, csf, haf, -, hcf, hRf, -⟩ := sl_at hF (fct_get hcf0)
    obtain ⟨mv, rfl, hf1, hf2, hf3, hMm⟩ := id hRf
    obtain ⟨am, cm, rfl, hmcap, hmmx, -⟩ := id hMm
    have hnm := hfo.nm
    refine seq <| region <| sv (yMove h0) <| sv (yNil rfl) <| sv (fa115_0 rfl) <| sv (fa29_6 rfl) <| sv (yLdB rfl isAgg27 (hS.ext.get hkb) rfl) <| vM <| sv (yIxQ rfl haf (rfl.trans (congrArg (Value.int .i64) (show curOf t now k = (((curOf t now k).toNat : Nat) : Int) by omega))) runUnderlying27 sizeOf121) <| sv (fa121_3 rfl) <| sv (yLd rfl isAgg119 ((hcf.ext hS.ext).at (j := 3) rfl)) <| sv (yLen rfl underlying119) <| vM ?_
    refine nil <| cwQ <| block <| loop (fun f w zz => ∃ (m : Nat) (can : Bool), f 0 = ptQ bk ∧ f 1 = vv ∧ f 4 = rv ∧ f 5 = .int .i64 ((((rightS t now v).take k).countP (fun b => b) : Nat) : Int) ∧ f 13 = .slice ax t.ctrs.length cx ∧ f 14 = .int .i64 (t.ctrs.length : Int) ∧ f 15 = .int .i64 (k : Int) ∧ f 7 = .int .i64 (curOf t now k) ∧ f 8 = .bool can ∧ f 29 = .slice am (fct t.fcs (curOf t now k).toNat).members.length cm ∧ f 30 = .int .i64 ((fct t.fcs (curOf t now k).toNat).members.length : Int) ∧ f 31 = .int .i64 (m : Int) ∧ StX [] w0 w [rowI (rv) 4 1 k (((rightS t now v).take k).flatMap encB)] ∧ (m ≤ (fct t.fcs (curOf t now k).toNat).members.length) ∧ (can = (List.range m).any fun q => hasS (tubeS t (fct t.fcs (curOf t now k).toNat) (mem (fct t.fcs (curOf t now k).toNat) q)) v) ∧ zz = (fct t.fcs (curOf t now k).toNat).members.length - m) _ ⟨_, rfl, 0, false, h0, h1, h4, h5, h13, h14, h15, rfl, rfl, rfl, rfl, rfl, hS, (Nat.zero_le _), (rfl), rfl⟩ ?_
    clear hS
    rintro f w _ ⟨m, can, h0, h1, h4, h5, h13, h14, h15, h7, h8, h29, h30, h31, hS, hm, hcan, rfl⟩
    refine seq <| region <| sv (yLss h31 h30) <| nil <| cwQ <| seq ?_
    refine cond rfl ?_ ?_ <;> intro c32 <;> simp only [BS, ne_eq] at c32
    ·
     have hml : m < (fct t.fcs (curOf t now k).toNat).members.length := by omega
     refine skip <| cwQ <| seq <| block <| seq <| region <| sv (yMove h31) <| vA <| nil <| cwQ ?_
     rcases Bool.eq_false_or_eq_true can with hcc | hcc
     ·
      refine region <| sv (yMove h8) <| vM ?_
      refine ungn (v := .bool can) rfl rfl rfl (by rw [hcc]; simp) ?_
      refine ungn (v := .bool can) rfl rfl rfl (by rw [hcc]; simp) ?_
      refine ungn (v := .bool can) rfl rfl rfl (by rw [hcc]; simp) ?_
      refine ungn (v := .bool can) rfl rfl rfl (by rw [hcc]; simp) ?_
      refine ungn (v := .bool can) rfl rfl rfl (by rw [hcc]; simp) ?_
      refine ungn (v := .bool can) rfl rfl rfl (by rw [hcc]; simp) ?_
      refine ungn (v := .bool can) rfl rfl rfl (by rw [hcc]; simp) ?_
      refine ungn (v := .bool can) rfl rfl rfl (by rw [hcc]; simp) ?_
      refine ungn (v := .bool can) rfl rfl rfl (by rw [hcc]; simp) ?_
      refine ungn (v := .bool can) rfl rfl rfl (by rw [hcc]; simp) ?_
      refine ungn (v := .bool can) rfl rfl rfl (by rw [hcc]; simp) ?_
      refine ungn (v := .bool can) rfl rfl rfl (by rw [hcc]; simp) ?_
      refine ungn (v := .bool can) rfl rfl rfl (by rw [hcc]; simp) ?_
      refine sv (yPick (v := .bool can) (B := can) rfl (fun _ => by rw [hcc]; rfl) (fun h => absurd (hcc.symm.trans h) (by decide))) ?_
      refine vA <| nil <| cwQ <| region <| sv (yAddQ h31 rfl) <| vM <| nil ?_
      exact ⟨_, _, rfl, ⟨m + 1, can, h0, h1, h4, h5, h13, h14, h15, h7, rfl, h29, h30, rfl, hS, (by omega), (by rw [any_succ, ← hcan, hcc]; rfl), rfl⟩, by omega⟩
     refine region <| sv (yMove h8) <| vM <| ungo rfl rfl (congrArg Value.bool hcc) <| sv (yMove h0) <| ungo rfl rfl (congrArg Value.bool hcc) <| sv (yMove h0) <| ungo rfl rfl (congrArg Value.bool hcc) <| sv (yNil rfl) <| ungo rfl rfl (congrArg Value.bool hcc) <| sv (fa115_0 rfl) <| ungo rfl rfl (congrArg Value.bool hcc) <| sv (fa29_6 rfl) ?_
     refine ungo rfl rfl (congrArg Value.bool hcc) <| sv (yLdB rfl isAgg27 (hS.ext.get hkb) rfl) <| ungo rfl rfl (congrArg Value.bool hcc) <| sv (yMove h7) <| ungo rfl rfl (congrArg Value.bool hcc) <| sv (yIxQ rfl haf (rfl.trans (congrArg (Value.int .i64) (show curOf t now k = (((curOf t now k).toNat : Nat) : Int) by omega))) runUnderlying27 sizeOf121) <| ungo rfl rfl (congrArg Value.bool hcc) <| sv (yLdA rfl isAgg121 sizeOf121 (hcf.ext hS.ext) rfl) <| ungo rfl rfl (congrArg Value.bool hcc) <| vM <| ungo rfl rfl (congrArg Value.bool hcc) ?_
     refine scall call81 e3 (c_tubeS (hk.ext hS.ext) hok (hg.ext hS.ext) hfo hml (hMm.ext RRow.stays hS.ext)) ?_
     rintro tv w hM; replace hS := hS.call1 hM; clear hM
     have htl := tubeS_lbd hok hfo hml
     refine ungo rfl rfl (congrArg Value.bool hcc) <| sv (yMove h1) <| ungo rfl rfl (congrArg Value.bool hcc) ?_
     refine scV hS call54 e2 (c_has (sl_spans (hS.row tv) (tubeS_len ..) (lbd_i64 htl)) (hv.ext RInt.stays hS.ext) (hvl.trans (tubeS_len ..).symm)) fun w hS => ?_
     refine sv (yPick (v := .bool (hasS (tubeS t (fct t.fcs (curOf t now k).toNat) (mem (fct t.fcs (curOf t now k).toNat) m)) v)) (B := can) rfl (fun h => absurd (hcc.symm.trans h) (by decide)) (fun _ => rfl)) <| vA <| nil <| cwQ <| region <| sv (yAddQ h31 rfl) <| vM <| nil ?_
     exact ⟨_, _, rfl, ⟨m + 1, _, h0, h1, h4, h5, h13, h14, h15, h7, rfl, h29, h30, rfl, (hS.sub (.cons _ lrQ)), (by omega), (by rw [any_succ, ← hcan, hcc]; rfl), rfl⟩, by omega⟩
    obtain rfl : m = (fct t.fcs (curOf t now k).toNat).members.length := by omega
    refine exit ?_
    exact ⟨_, rfl, _, h0, h1, h4, h5, h13, h14, h15, h8, hS, ((by rw [right_yes (by omega), ← hcan])), trivial⟩
   refine skip ?_
   exact ⟨_, rfl, false, h0, h1, h4, h5, h13, h14, h15, rfl, hS, ((right_no (by omega))), trivial⟩
  clear hS; rintro f w ⟨rb, h0, h1, h4, h5, h13, h14, h15, h8, hS, hrb, -⟩
  refine seq <| seq <| region <| sv (yMove h8) <| nil <| cwQ ?_
  refine cond rfl (fun c51 => ?_) (fun c51 => ?_)
  ·
   have hrt : rb = true := c51
   refine region <| sv (yMove h5) <| sv (yAddQ rfl rfl) <| vA <| nil <| cwQ <| region <| sv (yMove h4) <| sv (yMove h8) ?_
   refine sbslice hS underlying60 sizeOf4 rfl zeroValue4 rfl (.cons rfl rfl .nil) rfl fun b56 w hS => ?_
   refine sapp (bytes := 1) (size := 1) (v := rv) (m := 1) hS rfl rfl underlying60 ti4 rfl rfl rfl rfl (by decide) (blk_cells (hS.at _)) rfl rfl (by omega) (by omega) ?_; clear hS; intro v57 w hS
   refine vA <| nil <| cwQ <| region <| sv (yAddQ h15 rfl) <| vM <| nil ?_
   exact ⟨_, _, rfl, ⟨k + 1, _, h0, h1, rfl, (rfl.trans (congrArg (Value.int .i64) (by rw [cnt_snoc (right_get hkl), hrb, hrt]; simp))), h13, h14, rfl, (by rw [take_snoc (right_get hkl), List.flatMap_append, hrb]; exact hS.sub (.cons _ lrQ)), (by omega), rfl⟩, by omega⟩
  have hrt : rb = false := c51
  refine skip <| cwQ <| region <| sv (yMove h4) <| sv (yMove h8) ?_
  refine sbslice hS underlying60 sizeOf4 rfl zeroValue4 rfl (.cons rfl rfl .nil) rfl fun b56 w hS => ?_
  refine sapp (bytes := 1) (size := 1) (v := rv) (m := 1) hS rfl rfl underlying60 ti4 rfl rfl rfl rfl (by decide) (blk_cells (hS.at _)) rfl rfl (by omega) (by omega) ?_; clear hS; intro v57 w hS
  refine vA <| nil <| cwQ <| region <| sv (yAddQ h15 rfl) <| vM <| nil ?_
  exact ⟨_, _, rfl, ⟨k + 1, _, h0, h1, rfl, (h5.trans (congrArg (Value.int .i64) (by rw [cnt_snoc (right_get hkl), hrb, hrt]; simp))), h13, h14, rfl, (by rw [take_snoc (right_get hkl), List.flatMap_append, hrb]; exact hS.sub (.cons _ lrQ)), (by omega), rfl⟩, by omega⟩
 obtain rfl : k = t.ctrs.length := by omega
 rw [show (rightS t now v).take t.ctrs.length = rightS t now v from List.take_of_length_le (by rw [right_len]; exact Nat.le_refl _)] at hS h5
 refine exit <| cwQ <| seq <| region <| sv (yMove h4) <| sv (yMove h5) <| vA <| vA <| nil <| cwQ <| wp_ret <| retQ (res2 rfl rfl rfl) ?_
 exact ⟨_, rfl, hS⟩
end Go.Proofs.YtchbdfcbogjhcaaGreatDoor
namespace Bx
open Go Go.RowKit
theorem getD_mem {v : List Int} {k : Nat} (h : k < v.length) : v.getD k 0 ∈ v := by
 have : v[k]? = some (v.getD k 0) := by simp [h]
 exact List.mem_of_getElem? this
theorem sl_cellx {w : World} {a : Option Addr} {b o n c : Nat} {l : List Int} {i : Nat} {x : Int} (h : Sl w 1 RInt (.slice a n c) l) (hx : l[i]? = some x) (ha : a = some ⟨b, o, none⟩) : w.cell? ⟨b, o + i * 1, none⟩ = some (.int .i64 x) := by
 subst ha
 exact sl_cell h hx
section
variable {t : Sgt} {now : Int} {v : List Int}
theorem rate_yes {r : Int} (h : ∀ i, i < v.length - 1 → outB (v.getD (i + 1) 0 - v.getD i 0) (-r) r = false) : rateB r v = true := by
 refine List.all_eq_true.2 fun i hi => ?_
 rw [h i (List.mem_range.1 hi)]; rfl
theorem is_rate {k : Nat} (hk : k + 1 < v.length) (h : outB (v.getD (k + 1) 0 - v.getD k 0) (-t.rate) t.rate = true) : isS t now v = false := by
 have hr : rateB t.rate v = false := by
  cases hc : rateB t.rate v with
  | false => rfl
  | true =>
   have := List.all_eq_true.1 hc k (List.mem_range.2 (by omega))
   rw [h] at this; cases this
 unfold isS
 rw [hr]; rfl
theorem is_has (h : hasS (baseS t now) v = false) : isS t now v = false := by
 unfold isS
 rw [h, Bool.and_false]; rfl
theorem is_all (h1 : rateB t.rate v = true) (h2 : hasS (baseS t now) v = true) : isS t now v = decide (needS t now ≤ ((rightS t now v).countP fun b => b : Nat)) := by
 unfold isS
 rw [h1, h2]; rfl
end
end Bx
namespace Go.Proofs.YtchbdfcbogjhcaaGreatDoor
open Go Bx Go.Proofs.Tryz
theorem c_is {t : Sgt} {now : Int} {cv ov : Value} {ag ak ae aw ax : Option Addr} {cg ck ce cw cx bk mo : Nat} {os : List Span} {w0 w : World} {L9 : List Bx.Item} (h : RSgt w0 (scQ t cv ag ak ae cg ck ce) t) (hok : SgOk t) (hnow : Bd now 0 200000) (hg : Glb w0) (hown : (os = [] ∧ mo = 0 ∧ ov = .slice none 0 0) ∨ (os = baseS t now ∧ mo = t.ticks.toNat)) (hS : StX [] w0 w (blk bk (knQ t now cv ag ak ae cg ck ce aw cw ax cx ov) 115 :: rowI (ov) 69 2 mo ((os).flatMap spanC) :: rowI (.slice aw t.ticks.toNat cw) 69 2 t.ticks.toNat ((tidesS t).flatMap spanC) :: rowI (.slice ax t.ctrs.length cx) 3 1 t.ctrs.length ((curS t now).flatMap Bx.encI) :: L9)) {v : List Int} {vv : Value} (hvr : ∀ w2 : World, (∀ it ∈ L9, it.ok w2) → Ext w0 w2 → Sl w2 1 RInt vv v) (hvl : v.length = t.ticks.toNat) (hvb : ∀ x ∈ v, Bd x (-200000) 200000) : CE Tryz.prog 28 #[ptQ bk, vv] w (fun u w' => u = .bool (isS t now v) ∧ ∃ (ov' : Value) (os' : List Span) (mo' : Nat), ((os' = [] ∧ mo' = 0 ∧ ov' = .slice none 0 0) ∨ (os' = baseS t now ∧ mo' = t.ticks.toNat)) ∧ StX [] w0 w' (blk bk (knQ t now cv ag ak ae cg ck ce aw cw ax cx ov') 115 :: rowI (ov') 69 2 mo' ((os').flatMap spanC) :: rowI (.slice aw t.ticks.toNat cw) 69 2 t.ticks.toNat ((tidesS t).flatMap spanC) :: rowI (.slice ax t.ctrs.length cx) 3 1 t.ctrs.length ((curS t now).flatMap Bx.encI) :: L9)) := by
 obtain ⟨hT, hG, hw64, hf64, hk64, hC, hF, hl64, hm64, hr64, hq64⟩ := RSgt.parts h
 have htk := hok.tk
 have hn4 := hok.nums4
 obtain ⟨av, cvv, rfl, hvc, hvm, -⟩ := hvr _ (fun it hi => hS.ok it ((List.mem_cons_of_mem _ (List.mem_cons_of_mem _ (List.mem_cons_of_mem _ (List.mem_cons_of_mem _ hi)))))) hS.ext
 refine enter func28 rfl ntmps28 rfl ?_
 skip
 refine seq <| region <| vA <| nil <| cwQ <| seq <| seq <| region <| vA <| nil <| cwQ <| block <| loop (fun f w zz => ∃ (k : Nat), f 0 = ptQ bk ∧ f 1 = .slice av v.length cvv ∧ f 5 = .int .i64 ((k + 1 : Nat) : Int) ∧ StX [] w0 w (blk bk (knQ t now cv ag ak ae cg ck ce aw cw ax cx ov) 115 :: rowI (ov) 69 2 mo ((os).flatMap spanC) :: rowI (.slice aw t.ticks.toNat cw) 69 2 t.ticks.toNat ((tidesS t).flatMap spanC) :: rowI (.slice ax t.ctrs.length cx) 3 1 t.ctrs.length ((curS t now).flatMap Bx.encI) :: L9) ∧ (k + 1 ≤ v.length) ∧ (∀ i, i < k → outB (v.getD (i + 1) 0 - v.getD i 0) (-t.rate) t.rate = false) ∧ zz = v.length - k) _ ⟨_, rfl, 0, rfl, rfl, rfl, hS, (by omega), (fun i hi => absurd hi (Nat.not_lt_zero _)), rfl⟩ ?_
 clear hS
 rintro f w _ ⟨k, h0, h1, h5, hS, hk, hA, rfl⟩
 refine seq <| seq <| region <| sv (yMove h5) <| sv (yMove h1) <| sv (yLen rfl underlying30) <| sv (yLss rfl rfl) <| nil <| cwQ ?_
 refine cond rfl ?_ ?_ <;> intro c11 <;> simp only [BS, ne_eq] at c11
 ·
  have hkl : k + 1 < v.length := by omega
  have hvw := hvr _ (fun it hi => hS.ok it ((List.mem_cons_of_mem _ (List.mem_cons_of_mem _ (List.mem_cons_of_mem _ (List.mem_cons_of_mem _ hi)))))) hS.ext
  obtain ⟨b1, o1, c1, ha1, -, hc1, hR1, -⟩ := sl_at hvw (show v[k + 1]? = some (v.getD (k + 1) 0) by simp [hkl])
  obtain ⟨rfl, -⟩ := hR1
  obtain ⟨b0, o0, c0, ha0, -, hc0, hR0, -⟩ := sl_at hvw (show v[k]? = some (v.getD k 0) by simp [show k < v.length by omega])
  obtain ⟨rfl, -⟩ := hR0
  have hb1 := hvb _ (getD_mem hkl)
  have hb0 := hvb _ (getD_mem (show k < v.length by omega))
  refine skip <| cwQ <| seq <| block <| seq <| region_mix (fun w => StX [] w0 w (blk bk (knQ t now cv ag ak ae cg ck ce aw cw ax cx ov) 115 :: rowI (ov) 69 2 mo ((os).flatMap spanC) :: rowI (.slice aw t.ticks.toNat cw) 69 2 t.ticks.toNat ((tidesS t).flatMap spanC) :: rowI (.slice ax t.ctrs.length cx) 3 1 t.ctrs.length ((curS t now).flatMap Bx.encI) :: L9)) 22 mixed hS ?_
  clear hS; intro w hS
  refine fsQ 0 rfl (fun w hS => yMove h1) <| fsQ 1 rfl (fun w hS => yMove h5) <| fsQ 2 rfl (fun w hS => yIxQ rfl ha1 (rfl.trans (congrArg (Value.int .i64) (show ((k + 1 : Nat) : Int) = _ from rfl))) runUnderlying30 sizeOf3) <| fsQ 3 rfl (fun w hS => yLd rfl isAgg3 ((sl_cellx (hvr _ (fun it hi => hS.ok it ((List.mem_cons_of_mem _ (List.mem_cons_of_mem _ (List.mem_cons_of_mem _ (List.mem_cons_of_mem _ hi)))))) hS.ext) (show v[k + 1]? = some (v.getD (k + 1) 0) by simp [hkl]) ha1))) <| fsQ 4 rfl (fun w hS => yMove h1) <| fsQ 5 rfl (fun w hS => yMove h5) <| fsQ 6 rfl (fun w hS => Y.to (ySubQ rfl rfl) (congrArg (Value.int .i64) (show ((k + 1 : Nat) : Int) - 1 = (k : Int) by omega))) <| fsQ 7 rfl (fun w hS => yIxQ rfl ha0 rfl runUnderlying30 sizeOf3) <| fsQ 8 rfl (fun w hS => yLd rfl isAgg3 ((sl_cellx (hvr _ (fun it hi => hS.ok it ((List.mem_cons_of_mem _ (List.mem_cons_of_mem _ (List.mem_cons_of_mem _ (List.mem_cons_of_mem _ hi)))))) hS.ext) (show v[k]? = some (v.getD k 0) by simp [show k < v.length by omega]) ha0))) ?_
  refine fsQ 9 rfl (fun w hS => ySubQ rfl rfl) <| fsQ 10 rfl (fun w hS => yMove h0) <| fsQ 11 rfl (fun w hS => yNil rfl) <| fsQ 12 rfl (fun w hS => fa115_0 rfl) <| fsQ 13 rfl (fun w hS => fa29_9 rfl) <| fsQ 14 rfl (fun w hS => yLdB rfl isAgg3 (hS.at bk) rfl) <| fsQ 15 rfl (fun w hS => yNeg rfl ⟨by omega, by omega⟩) <| fsQ 16 rfl (fun w hS => yMove h0) <| fsQ 17 rfl (fun w hS => yNil rfl) <| fsQ 18 rfl (fun w hS => fa115_0 rfl) <| fsQ 19 rfl (fun w hS => fa29_9 rfl) <| fsQ 20 rfl (fun w hS => yLdB rfl isAgg3 (hS.at bk) rfl) <| awQ ?_
  refine a1Q 21 rfl ?_
  refine scV hS call32 e3 c_outS fun w hS => ?_
  refine nil ?_
  refine ⟨fun _ => hS, ?_⟩
  refine awQ <| a_end (by kernel_rfl) <| cwQ ?_
  refine cond rfl (fun c35 => ?_) (fun c35 => ?_)
  ·
   refine seq <| region <| vA <| nil <| cwQ ?_
   refine wp_ret (blockR (thenR (thenR (blockR (thenR ?_)))))
   refine retQ (res1 rfl rfl) ?_
   exact ⟨by rw [is_rate hkl c35]; rfl, ov, os, mo, hown, hS⟩
  refine skip <| cwQ <| region <| sv (yMove h5) <| sv (yAddQ rfl rfl) <| vA <| nil ?_
  exact ⟨_, _, rfl, ⟨k + 1, h0, h1, rfl, hS, (by omega), (fun i hi => by
   by_cases e : i = k
   ·
    subst e; exact c35
   exact hA i (by omega)), rfl⟩, by omega⟩
 have hke : v.length = k + 1 := by omega
 have hrate := rate_yes (show ∀ i, i < v.length - 1 → _ from fun i hi => hA i (by omega))
 refine exit <| cwQ <| seq <| seq <| region <| sv (yMove h0) ?_
 refine scall call53 e1 (c_baseS h hok hnow hg hown hS) ?_
 rintro bv w ⟨ov', hM⟩; clear hS; have hS := hM; clear hM
 refine sv (yMove h1) ?_
 refine scV hS call54 e2 (c_has (sl_spans (hS.row bv) (baseS_len ..) (lbd_i64 (baseS_lbd hok now))) (hvr _ (fun it hi => hS.ok it ((List.mem_cons_of_mem _ (List.mem_cons_of_mem _ (List.mem_cons_of_mem _ (List.mem_cons_of_mem _ (List.mem_cons_of_mem _ hi))))))) hS.ext) (hvl.trans (baseS_len ..).symm)) fun w hS => ?_
 refine sv (yNot rfl) <| nil <| cwQ ?_
 refine cond rfl (fun c40 => ?_) (fun c40 => ?_)
 ·
  have hhas : hasS (baseS t now) v = false := by cases hh : hasS (baseS t now) v with | false => rfl | true => rw [hh] at c40; cases c40
  refine seq <| region <| vA <| nil <| cwQ ?_
  refine wp_ret (thenR ?_)
  refine retQ (res1 rfl rfl) ?_
  exact ⟨by rw [is_has hhas]; rfl, ov', baseS t now, _, .inr ⟨rfl, rfl⟩, hS.sub (.cons _ lrQ)⟩
 have hhas : hasS (baseS t now) v = true := by cases hh : hasS (baseS t now) v with | true => rfl | false => rw [hh] at c40; cases c40
 refine skip <| cwQ <| seq <| region <| sv (yMove h0) <| sv (yMove h1) ?_
 refine scall call55 e2 (c_right ⟨cv, ag, cg, ak, ck, ae, ce, aw, cw, ax, cx, hS.at bk, RTable.stays _ _ _ _ hS.ext hT, hG.ext RGauge.stays hS.ext, hC.ext RCtr.stays hS.ext, hF.ext RFct.stays hS.ext, sl_spans (hS.row (.slice aw t.ticks.toNat cw)) (tidesS_len ..) (lbd_i64 (tides_lbd hok)), sl_ints (hS.row (.slice ax t.ctrs.length cx)) (curS_len ..) (cur_i64 hok)⟩ hok (hg.ext hS.ext) (hvr _ (fun it hi => hS.ok it ((List.mem_cons_of_mem _ (List.mem_cons_of_mem _ (List.mem_cons_of_mem _ (List.mem_cons_of_mem _ (List.mem_cons_of_mem _ hi))))))) hS.ext) hvl) ?_
 rintro _ w ⟨rv, rfl, hM⟩; replace hS := hS.call1 hM; clear hM
 refine vM <| sv (yExt rfl rfl) <| sv (yExt rfl rfl) <| vA <| vA <| nil <| cwQ <| seq <| region <| vM <| sv (yMove h0) ?_
 refine scV hS call56 e1 (c_needS ⟨cv, ag, cg, ak, ck, ae, ce, aw, cw, ax, cx, hS.at bk, RTable.stays _ _ _ _ hS.ext hT, hG.ext RGauge.stays hS.ext, hC.ext RCtr.stays hS.ext, hF.ext RFct.stays hS.ext, sl_spans (hS.row (.slice aw t.ticks.toNat cw)) (tidesS_len ..) (lbd_i64 (tides_lbd hok)), sl_ints (hS.row (.slice ax t.ctrs.length cx)) (curS_len ..) (cur_i64 hok)⟩ hok) fun w hS => ?_
 refine sv (yGeq rfl rfl) <| vA <| nil <| cwQ <| wp_ret <| retQ (res1 rfl rfl) ?_
 exact ⟨by rw [is_all hrate hhas]; rfl, ov', baseS t now, _, .inr ⟨rfl, rfl⟩, hS.sub (.cons _ (.cons _ lrQ))⟩
theorem c_his1 {a : Int} {w0 : World} (hg : Glb w0) : CV Tryz.prog 52 #[.int .i64 a] w0 (.bool (outB a (-20000) 20000)) := by
 refine enQ func52 rfl ntmps52 rfl fun hS => ?_
 refine seq <| region <| vA <| nil <| cwQ <| seq <| region <| vM <| sv (fa69_0 rfl) <| sv (yLd rfl isAgg3 ((hg.ext hS.ext).at (j := 0) rfl)) <| sv (fa69_1 rfl) <| sv (yLd rfl isAgg3 ((hg.ext hS.ext).at (j := 1) rfl)) ?_
 refine scV hS call32 e3 c_outS fun w hS => ?_
 refine vA <| nil <| cwQ <| wp_ret ?_
 exact rvQ hS
theorem c_history {t : Sgt} {cv : Value} {ag ak ae : Option Addr} {cg ck ce : Nat} {now : Int} {s : Ser} {vv : Value} {w0 : World} (h : RSgt w0 (scQ t cv ag ak ae cg ck ce) t) (hg : Glb w0) (hI : I64 now) (hsf : I64 s.frm) (hsv : Sl w0 1 RInt vv s.vals) : CE Tryz.prog 27 #[.agg (scQ t cv ag ak ae cg ck ce).toArray, .int .i64 now, .agg [.int .i64 s.frm, vv].toArray] w0 (fun u w' => (hisE t now s ≠ 0 ∧ ∃ p, u = .tuple #[p, .int .i64 (hisE t now s)] ∧ Ext w0 w') ∨ (hisE t now s = 0 ∧ ∃ bk aw cw ax cx, u = .tuple #[ptQ bk, .int .i64 0] ∧ St w0 w' [blk bk (knQ t now cv ag ak ae cg ck ce aw cw ax cx (.slice none 0 0)) 115, rowI (.slice aw t.ticks.toNat cw) 69 2 t.ticks.toNat ((tidesS t).flatMap spanC), rowI (.slice ax t.ctrs.length cx) 3 1 t.ctrs.length ((curS t now).flatMap Bx.encI)])) := by
 obtain ⟨hT, hG, hw64, hf64, hk64, hC, hF, hl64, hm64, hr64, hq64⟩ := RSgt.parts h
 obtain ⟨av, cvv, rfl, hvc, hvm, -⟩ := id hsv
 refine enQ func27 rfl ntmps27 rfl fun hS => ?_
 refine seq <| region ?_
 refine sbox hS rfl rfl fun b3 w hS => ?_
 refine sbox hS rfl rfl fun b5 w hS => ?_
 refine vA <| vA <| nil <| cwQ <| seq <| region <| sv (yLdBA rfl isAgg29 sizeOf29 (hS.at _) rfl rfl) <| vM ?_
 refine scall call10 e2 (c_with (h.ext hS.ext) hI) ?_
 rintro _ w (⟨he, rfl, hE⟩ | ⟨he, bk, aw, cw, ax, cx, rfl, hM⟩)
 ·
  replace hS := hS.step hE; clear hE
  refine vM <| sv (yExt rfl rfl) <| sv (yExt rfl rfl) <| vA <| vA <| nil <| cwQ <| seq <| seq <| region <| vM <| sv (yEql rfl rfl) <| vM ?_
  refine sg rfl rfl rfl (fun g => (fa32_0 rfl)) (fun v19 g19 => ?_)
  refine sg rfl rfl rfl (fun g => (yLdB (g19.1 g) isAgg3 (hS.at _) rfl)) (fun v20 g20 => ?_)
  refine sg rfl rfl rfl (fun g => (fa29_3 rfl)) (fun v21 g21 => ?_)
  refine sg rfl rfl rfl (fun g => (yLdB (g21.1 g) isAgg3 (hS.at _) rfl)) (fun v22 g22 => ?_)
  refine sg rfl rfl rfl (fun g => (yNeq (g20.1 g) (g22.1 g))) (fun v23 g23 => ?_)
  refine sg rfl rfl rfl (fun g => (yMove (g23.1 g))) (fun v24 g24 => ?_)
  refine sgg rfl rfl g24 (fun g => (fa32_1 rfl)) (fun v25 g25 => ?_)
  refine sgg rfl rfl g24 (fun g => (yLdB (g25.1 g) isAgg30 (hS.at _) rfl)) (fun v26 g26 => ?_)
  refine sgg rfl rfl g24 (fun g => (yLen (g26.1 g) underlying30)) (fun v27 g27 => ?_)
  refine sgg rfl rfl g24 (fun g => (fa29_4 rfl)) (fun v28 g28 => ?_)
  refine sgg rfl rfl g24 (fun g => (yLdB (g28.1 g) isAgg3 (hS.at _) rfl)) (fun v29 g29 => ?_)
  refine sgg rfl rfl g24 (fun g => (yNeq (g27.1 g) (g29.1 g))) (fun v30 g30 => ?_)
  refine sg rfl rfl rfl (fun g => (yOr (g24.1 g) rfl (fun hB => (g30.1 ⟨g, hB⟩)))) (fun v31 g31 => ?_)
  refine sg rfl rfl rfl (fun g => (yMove (g31.1 g))) (fun v32 g32 => ?_)
  refine sgg rfl rfl g32 (fun g => (fa32_1 rfl)) (fun v33 g33 => ?_)
  refine sgg rfl rfl g32 (fun g => (yLdB (g33.1 g) isAgg30 (hS.at _) rfl)) (fun v34 g34 => ?_)
  refine sggc hS rfl rfl g32 call51 (fun g => (.cons (g34.1 g) e1)) (fun g => (c_ContainsFuncInt (l := s.vals) (p := fun v => outB v (-20000) 20000) (cl := []) (hsv.ext RInt.stays hS.ext) call52 (fun x cs w2 hx he hR => c_his1 ((hg.ext hS.ext).ext he)))) ?_; clear hS; intro v35 w hS g35
  refine sg rfl rfl rfl (fun g => (yOr (g32.1 g) rfl (fun hB => (g35.1 ⟨g, hB⟩)))) (fun v36 g36 => ?_)
  refine sv (yAnd rfl (fun hB => (g36.1 hB)) rfl) <| nil <| cwQ ?_
  refine cond rfl (fun c37 => ?_) (fun c37 => ?_)
  ·
   refine region <| vA <| nil <| cwQ <| seq <| region <| vM <| vM <| vA <| vA <| nil <| cwQ <| wp_ret ?_
   refine retQ (res2 rfl rfl rfl) ?_
   exfalso
   rw [decide_eq_false he] at c37
   cases c37
  refine skip <| cwQ <| seq <| region <| vM <| vM <| vA <| vA <| nil <| cwQ <| wp_ret <| retQ (res2 rfl rfl rfl) ?_
  have hf : hisE t now s = askE t now := by unfold hisE; rw [if_pos he]
  exact .inl ⟨by rw [hf]; exact he, _, by rw [hf]; rfl, hS.ext⟩
 replace hS := hS.call hM; clear hM
 replace hS : StX [] w0 w [blk bk (knQ t now cv ag ak ae cg ck ce aw cw ax cx (.slice none 0 0)) 115, rowI (.slice aw t.ticks.toNat cw) 69 2 t.ticks.toNat ((tidesS t).flatMap spanC), rowI (.slice ax t.ctrs.length cx) 3 1 t.ctrs.length ((curS t now).flatMap Bx.encI), blk b5 [.int .i64 s.frm, .slice av s.vals.length cvv] 32, blk b3 (scQ t cv ag ak ae cg ck ce) 29] := hS
 obtain ⟨hok, hnow⟩ := askE_ok he
 have htk := hok.tk
 have hnc := hok.nc
 have hnf := hok.nf
 refine vM <| sv (yExt rfl rfl) <| sv (yExt rfl rfl) <| vA <| vA <| nil <| cwQ <| seq <| seq <| region <| vM <| sv (yEql rfl rfl) <| vM ?_
 refine sg rfl rfl rfl (fun g => (fa32_0 rfl)) (fun v19 g19 => ?_)
 refine sg rfl rfl rfl (fun g => (yLdB (g19.1 g) isAgg3 (hS.at _) rfl)) (fun v20 g20 => ?_)
 refine sg rfl rfl rfl (fun g => (fa29_3 rfl)) (fun v21 g21 => ?_)
 refine sg rfl rfl rfl (fun g => (yLdB (g21.1 g) isAgg3 (hS.at _) rfl)) (fun v22 g22 => ?_)
 refine sg rfl rfl rfl (fun g => (yNeq (g20.1 g) (g22.1 g))) (fun v23 g23 => ?_)
 refine sg rfl rfl rfl (fun g => (yMove (g23.1 g))) (fun v24 g24 => ?_)
 refine sgg rfl rfl g24 (fun g => (fa32_1 rfl)) (fun v25 g25 => ?_)
 refine sgg rfl rfl g24 (fun g => (yLdB (g25.1 g) isAgg30 (hS.at _) rfl)) (fun v26 g26 => ?_)
 refine sgg rfl rfl g24 (fun g => (yLen (g26.1 g) underlying30)) (fun v27 g27 => ?_)
 refine sgg rfl rfl g24 (fun g => (fa29_4 rfl)) (fun v28 g28 => ?_)
 refine sgg rfl rfl g24 (fun g => (yLdB (g28.1 g) isAgg3 (hS.at _) rfl)) (fun v29 g29 => ?_)
 refine sgg rfl rfl g24 (fun g => (yNeq (g27.1 g) (g29.1 g))) (fun v30 g30 => ?_)
 refine sg rfl rfl rfl (fun g => (yOr (g24.1 g) rfl (fun hB => (g30.1 ⟨g, hB⟩)))) (fun v31 g31 => ?_)
 refine sg rfl rfl rfl (fun g => (yMove (g31.1 g))) (fun v32 g32 => ?_)
 refine sgg rfl rfl g32 (fun g => (fa32_1 rfl)) (fun v33 g33 => ?_)
 refine sgg rfl rfl g32 (fun g => (yLdB (g33.1 g) isAgg30 (hS.at _) rfl)) (fun v34 g34 => ?_)
 refine sggc hS rfl rfl g32 call51 (fun g => (.cons (g34.1 g) e1)) (fun g => (c_ContainsFuncInt (l := s.vals) (p := fun v => outB v (-20000) 20000) (cl := []) (hsv.ext RInt.stays hS.ext) call52 (fun x cs w2 hx he hR => c_his1 ((hg.ext hS.ext).ext he)))) ?_; clear hS; intro v35 w hS g35
 refine sg rfl rfl rfl (fun g => (yOr (g32.1 g) rfl (fun hB => (g35.1 ⟨g, hB⟩)))) (fun v36 g36 => ?_)
 refine sv (yAnd rfl (fun hB => (g36.1 hB)) rfl) <| nil <| cwQ ?_
 refine cond rfl (fun c37 => ?_) (fun c37 => ?_)
 ·
  refine region <| vA <| nil <| cwQ <| seq <| region <| vM <| vM <| vA <| vA <| nil <| cwQ <| wp_ret ?_
  refine retQ (res2 rfl rfl rfl) ?_
  have hb : hisBad t s = true := c37
  have hf : hisE t now s = 2 := by unfold hisE; rw [if_neg (fun k => k he), if_pos hb]
  exact .inl ⟨by rw [hf]; decide, _, by rw [hf]; rfl, hS.ext⟩
 refine skip <| cwQ <| seq <| region <| vM <| vM <| vA <| vA <| nil <| cwQ <| wp_ret <| retQ (res2 rfl rfl rfl) ?_
 have hb : hisBad t s = false := c37
 have hf : hisE t now s = 0 := by unfold hisE; rw [if_neg (fun k => k he), if_neg (by rw [hb]; decide)]
 exact .inr ⟨hf, bk, aw, cw, ax, cx, rfl, hS.sub (.cons_cons _ (.cons_cons _ (.cons_cons _ (List.nil_sublist _))))⟩
theorem c_Is {t : Sgt} {cv : Value} {ag ak ae : Option Addr} {cg ck ce : Nat} {now : Int} {s : Ser} {vv : Value} {w0 : World} (h : RSgt w0 (scQ t cv ag ak ae cg ck ce) t) (hg : Glb w0) (hI : I64 now) (hsf : I64 s.frm) (hsv : Sl w0 1 RInt vv s.vals) : CV Tryz.prog 8 #[.agg (scQ t cv ag ak ae cg ck ce).toArray, .int .i64 now, .agg [.int .i64 s.frm, vv].toArray] w0 (.tuple #[.bool (isR t now s).1, .int .i64 (isR t now s).2]) := by
 obtain ⟨hT, hG, hw64, hf64, hk64, hC, hF, hl64, hm64, hr64, hq64⟩ := RSgt.parts h
 obtain ⟨av, cvv, rfl, hvc, hvm, -⟩ := id hsv
 refine enQ func8 rfl ntmps8 rfl fun hS => ?_
 refine seq <| region ?_
 refine sbox hS rfl rfl fun b3 w hS => ?_
 refine sbox hS rfl rfl fun b5 w hS => ?_
 refine vA <| vA <| nil <| cwQ <| seq <| region <| sv (yLdBA rfl isAgg29 sizeOf29 (hS.at _) rfl rfl) <| vM <| sv (yLdBA rfl isAgg32 sizeOf32 (hS.at _) rfl rfl) ?_
 refine scall call27 e3 (c_history (h.ext hS.ext) (hg.ext hS.ext) hI hsf (hsv.ext RInt.stays hS.ext)) ?_
 rintro _ w (⟨he, p, rfl, hE⟩ | ⟨he, bk, aw, cw, ax, cx, rfl, hM⟩)
 ·
  replace hS := hS.step hE; clear hE
  refine vM <| sv (yExt rfl rfl) <| sv (yExt rfl rfl) <| vA <| vA <| nil <| cwQ <| seq <| seq <| region <| vM <| sv (yNeq rfl rfl) <| nil ?_
  refine cwQ ?_
  refine cond rfl ?_ ?_ <;> intro c18 <;> simp only [BS, ne_eq] at c18
  ·
   refine seq <| region <| vM <| vA <| vA <| nil <| cwQ ?_
   have hf : isR t now s = (false, hisE t now s) := by unfold isR; rw [if_pos he]
   refine wp_ret (thenR ?_)
   exact retV (res2 rfl (by rw [hf]; rfl) (by rw [hf]; rfl)) hS.ext
  exact absurd c18 he
 replace hS := hS.call hM; clear hM
 replace hS : StX [] w0 w [blk bk (knQ t now cv ag ak ae cg ck ce aw cw ax cx (.slice none 0 0)) 115, rowI (.slice aw t.ticks.toNat cw) 69 2 t.ticks.toNat ((tidesS t).flatMap spanC), rowI (.slice ax t.ctrs.length cx) 3 1 t.ctrs.length ((curS t now).flatMap Bx.encI), blk b5 [.int .i64 s.frm, .slice av s.vals.length cvv] 32, blk b3 (scQ t cv ag ak ae cg ck ce) 29] := hS
 obtain ⟨hok, hnow, hfq, hvl, hvb⟩ := hisE_ok he
 refine vM <| sv (yExt rfl rfl) <| sv (yExt rfl rfl) <| vA <| vA <| nil <| cwQ <| seq <| seq <| region <| vM <| sv (yNeq rfl rfl) <| nil ?_
 refine cwQ ?_
 refine cond rfl (fun c18 => ?_) (fun c18 => ?_)
 ·
  exact absurd c18 (by decide)
 refine skip <| cwQ <| seq <| region <| vM <| sv (fa32_1 rfl) <| vL rfl isAgg30 hS rfl ?_
 refine scall call28 e2 (c_is h hok hnow hg (.inl ⟨rfl, rfl, rfl⟩) ((hS.nilrow 69 2).perm (List.Perm.swap _ _ _)) (fun w2 _ he2 => hsv.ext RInt.stays he2) hvl (fun x hx => by have := hvb x hx; omega)) ?_
 clear hS; rintro _ w ⟨rfl, ov', os', mo', hown', hS⟩
 refine vA <| vA <| nil <| cwQ ?_
 have hf : isR t now s = (isS t now s.vals, 0) := by unfold isR; rw [if_neg (fun k => k he)]
 refine wp_ret ?_
 exact retV (res2 rfl (by rw [hf]; rfl) (by rw [hf]; rfl)) hS.ext
end Go.Proofs.YtchbdfcbogjhcaaGreatDoor
namespace Bx
open Go Go.RowKit
def Room (n bytes : Nat) : Prop := n * bytes ≤ 140737488351232
def RoomW (n bytes : Nat) : Prop := n * bytes ≤ 140737488353280
structure Spn where
 fr : Int
 un : Int
structure Opr where
 name : ByteArray
 grade : Int
 duty : List Spn
structure Knd where
 name : ByteArray
 grade : Int
 second : Int
 within : Int
 keys : List Int
 split : Bool
structure Crew where
 ops : List Opr
 keys : List ByteArray
 kinds : List Knd
def spnC (s : Spn) : List Value := [.int .i64 s.fr, .int .i64 s.un]
def RSpn (_ : World) (cs : List Value) (s : Spn) : Prop := cs = spnC s ∧ I64 s.fr ∧ I64 s.un
theorem RSpn.stays : Stays RSpn := fun _ _ _ _ _ h => h
def RNam (_ : World) (cs : List Value) (s : ByteArray) : Prop := cs = [.string s] ∧ s.size ≤ 9223372036854775807
theorem RNam.stays : Stays RNam := fun _ _ _ _ _ h => h
def ROpr (w : World) (cs : List Value) (o : Opr) : Prop := ∃ dv, cs = [.string o.name, .int .i64 o.grade, dv] ∧ o.name.size ≤ 9223372036854775807 ∧ I64 o.grade ∧ Sl w 2 RSpn dv o.duty ∧ RoomW o.duty.length 16
theorem ROpr.stays : Stays ROpr := fun _ _ _ _ e ⟨dv, h1, h2, h3, h4, h5⟩ => ⟨dv, h1, h2, h3, h4.ext RSpn.stays e, h5⟩
def RKnd (w : World) (cs : List Value) (k : Knd) : Prop := ∃ kv, cs = [.string k.name, .int .i64 k.grade, .int .i64 k.second, .int .i64 k.within, kv, .bool k.split] ∧ k.name.size ≤ 9223372036854775807 ∧ I64 k.grade ∧ I64 k.second ∧ I64 k.within ∧ Sl w 1 RInt kv k.keys ∧ Room k.keys.length 8
theorem RKnd.stays : Stays RKnd := fun _ _ _ _ e ⟨kv, h1, h2, h3, h4, h5, h6, h7⟩ => ⟨kv, h1, h2, h3, h4, h5, h6.ext RInt.stays e, h7⟩
def RCrew (w : World) (cs : List Value) (c : Crew) : Prop := ∃ ov kv nv, cs = [ov, kv, nv] ∧ Sl w 3 ROpr ov c.ops ∧ Sl w 1 RNam kv c.keys ∧ Sl w 6 RKnd nv c.kinds ∧ Room c.ops.length 48
theorem RCrew.stays : Stays RCrew := fun _ _ _ _ e ⟨ov, kv, nv, h1, h2, h3, h4, h5⟩ => ⟨ov, kv, nv, h1, h2.ext ROpr.stays e, h3.ext RNam.stays e, h4.ext RKnd.stays e, h5⟩
theorem RCrew.ext {w w' : World} {cs : List Value} {c : Crew} (h : RCrew w cs c) (e : Ext w w') : RCrew w' cs c := RCrew.stays _ _ _ _ e h
theorem ROpr.ext {w w' : World} {cs : List Value} {c : Opr} (h : ROpr w cs c) (e : Ext w w') : ROpr w' cs c := ROpr.stays _ _ _ _ e h
theorem RKnd.ext {w w' : World} {cs : List Value} {c : Knd} (h : RKnd w cs c) (e : Ext w w') : RKnd w' cs c := RKnd.stays _ _ _ _ e h
def namedR {α : Type} (nm : α → ByteArray) (rest : α → Int) : List α → List ByteArray → Int → Int × Int
 | [], _, _ => (0, 0)
 | x :: l, seen, i => if (!isName (nm x)) = true then (i, 6) else if memB (nm x) seen = true then (i, 5) else if rest x ≠ 0 then (i, rest x) else namedR nm rest l (seen ++ [nm x]) (i + 1)
theorem namedR_take {α : Type} {nm : α → ByteArray} {l : List α} {k : Nat} {x : α} (h : l[k]? = some x) : (l.take (k + 1)).map nm = (l.take k).map nm ++ [nm x] := by rw [take_snoc h, List.map_append]; rfl
structure BRow where
 level : Int
 volume : Int
structure Pol where
 name : ByteArray
 sill : Int
 take : Int
 room : Int
structure Bas where
 rows : List BRow
 leak : Int
 crest : Int
 over : Int
 pols : List Pol
structure BSt where
 volume : Int
 filled : List Int
structure BTk where
 outer : Int
 river : Int
 out : Int
structure BFl where
 river : Int
 over : Int
 leak : Int
 out : Int
 taken : List Int
def browC (x : BRow) : List Value := [.int .i64 x.level, .int .i64 x.volume]
def RBrow (_ : World) (cs : List Value) (x : BRow) : Prop := cs = browC x ∧ I64 x.level ∧ I64 x.volume
theorem RBrow.stays : Stays RBrow := fun _ _ _ _ _ h => h
def polC (x : Pol) : List Value := [.string x.name, .int .i64 x.sill, .int .i64 x.take, .int .i64 x.room]
def RPol (_ : World) (cs : List Value) (x : Pol) : Prop := cs = polC x ∧ x.name.size ≤ 9223372036854775807 ∧ I64 x.sill ∧ I64 x.take ∧ I64 x.room
theorem RPol.stays : Stays RPol := fun _ _ _ _ _ h => h
def RBas (w : World) (cs : List Value) (b : Bas) : Prop := ∃ rv pv, cs = [rv, .int .i64 b.leak, .int .i64 b.crest, .int .i64 b.over, pv] ∧ Sl w 2 RBrow rv b.rows ∧ I64 b.leak ∧ I64 b.crest ∧ I64 b.over ∧ Sl w 4 RPol pv b.pols
theorem RBas.stays : Stays RBas := fun _ _ _ _ e ⟨rv, pv, h1, h2, h3, h4, h5, h6⟩ => ⟨rv, pv, h1, h2.ext RBrow.stays e, h3, h4, h5, h6.ext RPol.stays e⟩
theorem RBas.ext {w w' : World} {cs : List Value} {b : Bas} (h : RBas w cs b) (e : Ext w w') : RBas w' cs b := RBas.stays _ _ _ _ e h
def RBst (w : World) (cs : List Value) (s : BSt) : Prop := ∃ fv, cs = [.int .i64 s.volume, fv] ∧ I64 s.volume ∧ Sl w 1 RInt fv s.filled ∧ Room s.filled.length 8
theorem RBst.stays : Stays RBst := fun _ _ _ _ e ⟨fv, h1, h2, h3, h4⟩ => ⟨fv, h1, h2, h3.ext RInt.stays e, h4⟩
theorem RBst.ext {w w' : World} {cs : List Value} {b : BSt} (h : RBst w cs b) (e : Ext w w') : RBst w' cs b := RBst.stays _ _ _ _ e h
def btkC (x : BTk) : List Value := [.int .i64 x.outer, .int .i64 x.river, .int .i64 x.out]
def RBtk (_ : World) (cs : List Value) (x : BTk) : Prop := cs = btkC x ∧ I64 x.outer ∧ I64 x.river ∧ I64 x.out
theorem RBtk.stays : Stays RBtk := fun _ _ _ _ _ h => h
def RTks (w : World) (cs : List Value) (l : List BTk) : Prop := ∃ v, cs = [v] ∧ Sl w 3 RBtk v l
theorem RTks.stays : Stays RTks := fun _ _ _ _ e ⟨v, h1, h2⟩ => ⟨v, h1, h2.ext RBtk.stays e⟩
def brow (b : Bas) (i : Nat) : BRow := b.rows.getD i ⟨0, 0⟩
theorem brow_get {b : Bas} {i : Nat} (h : i < b.rows.length) : b.rows[i]? = some (brow b i) := by simp [brow, List.getD, h]
theorem namedR_ok {α : Type} {nm : α → ByteArray} {rest : α → Int} : ∀ (l : List α) (seen : List ByteArray) (i : Int), (namedR nm rest l seen i).2 = 0 → (∀ x ∈ l, isName (nm x) = true ∧ rest x = 0 ∧ memB (nm x) seen = false) ∧ (l.map nm).Nodup
  | [], _, _, _ => ⟨fun _ h => (nomatch h), by simp⟩
  | x :: l, seen, i, h => by
    rw [namedR] at h
    split at h
    next => cases h
    next h1 =>
      split at h
      next => cases h
      next h2 =>
        split at h
        next h3 => exact absurd h h3
        next h3 =>
          obtain ⟨k1, k2⟩ := namedR_ok l _ _ h
          refine ⟨fun y hy => ?_, List.nodup_cons.2 ⟨fun hm => ?_, k2⟩⟩
          · rcases List.mem_cons.1 hy with rfl | hy
            · exact ⟨by simpa using h1, by simpa using h3, by simpa using h2⟩
            · have := k1 y hy
              rw [memB_snoc] at this
              simp only [Bool.or_eq_false_iff] at this
              exact ⟨this.1, this.2.1, this.2.2.1⟩
          · obtain ⟨y, hy, e⟩ := List.mem_map.1 hm
            have := (k1 y hy).2.2
            rw [memB_snoc] at this
            simp only [Bool.or_eq_false_iff, decide_eq_false_iff_not] at this
            exact this.2 e
def lvB (b : Bas) (i : Nat) : Int := (brow b i).level
def vlB (b : Bas) (i : Nat) : Int := (brow b i).volume
def rowE (b : Bas) (i : Nat) : Int := if (outB (lvB b i) (-20000) 20000 || outB (vlB b i) 0 1000000000) = true then 7 else if 0 < i ∧ (lvB b i ≤ lvB b (i - 1) ∨ vlB b i ≤ vlB b (i - 1)) then 2 else 0
def bpolE (b : Bas) (x : Pol) : Int := if (outB x.sill (lvB b 0) 20000 || outB x.take 0 10000 || outB x.room 0 1000000000) = true then 7 else 0
def WideB (b : Bas) (r : Int) : Prop := ∀ i, i < b.rows.length - 1 → r * (lvB b (i + 1) - lvB b i) ≤ vlB b (i + 1) - vlB b i
instance (b : Bas) (r : Int) : Decidable (WideB b r) := Nat.decidableBallLT _ _
def greatB (b : Bas) (l : List Pol) : Int := l.foldl (fun m x => max m x.take) b.leak
def checkB (b : Bas) : Int × Int × Int :=
 if outB b.rows.length 2 12 = true then (1, 0, 3)
 else if (firstN (rowE b) b.rows.length 0).2 ≠ 0 then (1, firstN (rowE b) b.rows.length 0)
 else if (outB b.leak 0 10000 || outB b.over 0 10000 || outB b.crest (-20000) 20000) = true then (2, 0, 7)
 else if (6 : Int) < b.pols.length then (3, 0, 3)
 else if (namedR (·.name) (bpolE b) b.pols [] 0).2 ≠ 0 then (3, namedR (·.name) (bpolE b) b.pols [] 0)
 else if ¬ WideB b (greatB b b.pols) then (4, 0, 2)
 else (0, 0, 0)
structure BasOk (b : Bas) : Prop where
 len : 2 ≤ b.rows.length ∧ b.rows.length ≤ 12
 lv : ∀ i, i < b.rows.length → -20000 ≤ lvB b i ∧ lvB b i ≤ 20000
 vl : ∀ i, i < b.rows.length → 0 ≤ vlB b i ∧ vlB b i ≤ 1000000000
 lvs : ∀ i, i + 1 < b.rows.length → lvB b i < lvB b (i + 1)
 vls : ∀ i, i + 1 < b.rows.length → vlB b i < vlB b (i + 1)
 leak : 0 ≤ b.leak ∧ b.leak ≤ 10000
 over : 0 ≤ b.over ∧ b.over ≤ 10000
 crest : -20000 ≤ b.crest ∧ b.crest ≤ 20000
 npol : b.pols.length ≤ 6
 pol : ∀ x ∈ b.pols, (lvB b 0 ≤ x.sill ∧ x.sill ≤ 20000) ∧ (0 ≤ x.take ∧ x.take ≤ 10000) ∧ 0 ≤ x.room ∧ x.room ≤ 1000000000
 wleak : WideB b b.leak
 wpol : ∀ x ∈ b.pols, WideB b x.take
theorem great_ge {b : Bas} : ∀ (l : List Pol) (m : Int), m ≤ l.foldl (fun m x => max m x.take) m ∧ ∀ x ∈ l, x.take ≤ l.foldl (fun m x => max m x.take) m
  | [], m => ⟨Int.le_refl _, fun _ h => nomatch h⟩
  | x :: l, m => by
    obtain ⟨h1, h2⟩ := great_ge (b := b) l (max m x.take)
    rw [List.foldl_cons]
    refine ⟨by omega, fun y hy => ?_⟩
    rcases List.mem_cons.1 hy with rfl | hy
    · omega
    · exact h2 y hy
theorem great_mem {b : Bas} : ∀ (l : List Pol) (m : Int), l.foldl (fun m x => max m x.take) m = m ∨ ∃ x ∈ l, l.foldl (fun m x => max m x.take) m = x.take
  | [], m => .inl rfl
  | x :: l, m => by
    rw [List.foldl_cons]
    rcases great_mem (b := b) l (max m x.take) with h | ⟨y, hy, h⟩
    · rcases Int.le_total m x.take with k | k
      · exact .inr ⟨x, List.mem_cons_self .., by rw [h]; omega⟩
      · exact .inl (by rw [h]; omega)
    · exact .inr ⟨y, List.mem_cons_of_mem _ hy, h⟩
theorem wide_le {b : Bas} {r s : Int} (hl : ∀ i, i + 1 < b.rows.length → lvB b i < lvB b (i + 1)) (h : WideB b s) (hr : r ≤ s) : WideB b r := fun i hi => by
 have h1 := h i hi
 have h2 := hl i (by omega)
 have h3 : r * (lvB b (i + 1) - lvB b i) ≤ s * (lvB b (i + 1) - lvB b i) := Int.mul_le_mul_of_nonneg_right hr (by omega)
 omega
theorem rowE_ok {b : Bas} {i : Nat} (h : rowE b i = 0) : ((-20000 ≤ lvB b i ∧ lvB b i ≤ 20000) ∧ 0 ≤ vlB b i ∧ vlB b i ≤ 1000000000) ∧ (0 < i → lvB b (i - 1) < lvB b i ∧ vlB b (i - 1) < vlB b i) := by
 unfold rowE at h
 split at h
 ·
  simp at h
 ·
  next h1 =>
  split at h
  ·
   simp at h
  ·
   next h2 =>
   simp only [Bool.not_eq_true, Bool.or_eq_false_iff, outB_false] at h1
   exact ⟨h1, fun h0 => by constructor <;> (apply Decidable.byContradiction; intro hc; exact h2 ⟨h0, by omega⟩)⟩
theorem check_ok {b : Bas} (h : (checkB b).2.2 = 0) : BasOk b := by
 unfold checkB at h
 split at h
 ·
  simp at h
 next h1 =>
 split at h
 next h2 => exact absurd h h2
 next h2 =>
 split at h
 ·
  simp at h
 next h3 =>
 split at h
 ·
  simp at h
 next h4 =>
 split at h
 next h5 => exact absurd h h5
 next h5 =>
 split at h
 ·
  simp at h
 next h6 =>
 simp only [Bool.not_eq_true, Bool.or_eq_false_iff, outB_false] at h1 h3
 have hr := firstN_ok (Decidable.not_not.1 h2)
 have hp := (namedR_ok _ _ _ (Decidable.not_not.1 h5)).1
 have hw : WideB b (greatB b b.pols) := Decidable.not_not.1 h6
 have hR : ∀ i, i < b.rows.length → _ := fun i hi => rowE_ok (hr i (Nat.zero_le _) (by omega))
 have hls : ∀ i, i + 1 < b.rows.length → lvB b i < lvB b (i + 1) := fun i hi => ((hR (i + 1) hi).2 (by omega)).1
 obtain ⟨g1, g2⟩ := great_ge (b := b) b.pols b.leak
 refine ⟨by omega, fun i hi => (hR i hi).1.1, fun i hi => (hR i hi).1.2, hls, fun i hi => ((hR (i + 1) hi).2 (by omega)).2, h3.1.1, h3.1.2, h3.2, by omega, fun x hx => ?_, wide_le hls hw g1, fun x hx => wide_le hls hw (g2 x hx)⟩
 have k := (hp x hx).2.1
 unfold bpolE at k
 split at k
 ·
  simp at k
 ·
  next k1 =>
  simp only [Bool.not_eq_true, Bool.or_eq_false_iff, outB_false] at k1
  exact ⟨k1.1.1, k1.1.2, k1.2⟩
def idxR (b : Bas) (v : Int) : Nat → Nat
 | 0 => 0
 | k + 1 => if vlB b (k + 1) ≤ v then k + 1 else idxR b v k
def idxB (b : Bas) (v : Int) : Nat := idxR b v (b.rows.length - 2)
theorem idxR_le (b : Bas) (v : Int) : ∀ n, idxR b v n ≤ n
  | 0 => Nat.le_refl _
  | k + 1 => by rw [idxR]; split; · exact Nat.le_refl _
                · exact Nat.le_succ_of_le (idxR_le b v k)
theorem idxR_vl (b : Bas) (v : Int) (h0 : vlB b 0 ≤ v) : ∀ n, vlB b (idxR b v n) ≤ v
  | 0 => h0
  | k + 1 => by
    rw [idxR]
    split
    · assumption
    · exact idxR_vl b v h0 k
theorem idxR_gt (b : Bas) (v : Int) : ∀ n i, idxR b v n < i → i ≤ n → v < vlB b i
  | 0, i, h1, h2 => by rw [idxR] at h1; omega
  | k + 1, i, h1, h2 => by
    rw [idxR] at h1
    split at h1
    · omega
    · next h =>
      by_cases hi : i = k + 1
      · rw [hi]; omega
      · exact idxR_gt b v k i h1 (by omega)
theorem idxR_eq (b : Bas) (v : Int) {n i : Nat} (hi : i ≤ n) (h1 : i = 0 ∨ vlB b i ≤ v) (h2 : ∀ k, i < k → k ≤ n → v < vlB b k) : idxR b v n = i := by
 induction n with
 | zero => rw [idxR]; omega
 | succ k ih =>
  rw [idxR]
  split
  ·
   next h =>
   by_cases hk : i = k + 1
   ·
    exact hk.symm
   ·
    have := h2 (k + 1) (by omega) (Nat.le_refl _); omega
  ·
   next h =>
   by_cases hk : i = k + 1
   ·
    subst hk
    rcases h1 with h1 | h1
    ·
     omega
    ·
     exact absurd h1 h
   ·
    exact ih (by omega) (fun j hj hj2 => h2 j hj (by omega))
def exD (b : Bas) (v : Int) : Int := vlB b (idxB b v + 1) - vlB b (idxB b v)
def exN (b : Bas) (v : Int) : Int := lvB b (idxB b v) * exD b v + (v - vlB b (idxB b v)) * (lvB b (idxB b v + 1) - lvB b (idxB b v))
section
variable {b : Bas} (h : BasOk b)
include h
theorem idx_lt (v : Int) : idxB b v + 1 < b.rows.length := by have := idxR_le b v (b.rows.length - 2); have := h.len; unfold idxB; omega
theorem vl_mono {i j : Nat} (hij : i ≤ j) (hj : j < b.rows.length) : vlB b i ≤ vlB b j := by
 induction j with
 | zero => rw [show i = 0 by omega]; exact Int.le_refl _
 | succ j ih =>
  by_cases e : i = j + 1
  ·
   rw [e]; exact Int.le_refl _
  ·
   have := ih (by omega) (by omega); have := h.vls j hj; omega
theorem lv_mono {i j : Nat} (hij : i ≤ j) (hj : j < b.rows.length) : lvB b i ≤ lvB b j := by
 induction j with
 | zero => rw [show i = 0 by omega]; exact Int.le_refl _
 | succ j ih =>
  by_cases e : i = j + 1
  ·
   rw [e]; exact Int.le_refl _
  ·
   have := ih (by omega) (by omega); have := h.lvs j hj; omega
theorem exD_bd (v : Int) : 1 ≤ exD b v ∧ exD b v ≤ 1000000000 := by
 have hi := idx_lt h v
 have := h.vls _ hi
 have := h.vl (idxB b v) (by omega)
 have := h.vl (idxB b v + 1) hi
 unfold exD; omega
theorem dl_bd (v : Int) : 1 ≤ lvB b (idxB b v + 1) - lvB b (idxB b v) ∧ lvB b (idxB b v + 1) - lvB b (idxB b v) ≤ 40000 := by
 have hi := idx_lt h v
 have := h.lvs _ hi
 have := h.lv (idxB b v) (by omega)
 have := h.lv (idxB b v + 1) hi
 omega
theorem ex_parts {v : Int} (h0 : vlB b 0 ≤ v) (h1 : v ≤ 1000000000) : (0 ≤ v - vlB b (idxB b v) ∧ v - vlB b (idxB b v) ≤ 1000000000) ∧
    (-20000000000000 ≤ lvB b (idxB b v) * exD b v ∧ lvB b (idxB b v) * exD b v ≤ 20000000000000) ∧ (0 ≤ (v - vlB b (idxB b v)) * (lvB b (idxB b v + 1) - lvB b (idxB b v)) ∧ (v - vlB b (idxB b v)) * (lvB b (idxB b v + 1) - lvB b (idxB b v)) ≤ 40000000000000) := by
  have hi := idx_lt h v
  have hv := idxR_vl b v h0 (b.rows.length - 2)
  have hv' : vlB b (idxB b v) ≤ v := hv
  have a1 := h.vl (idxB b v) (by omega)
  have a2 := h.lv (idxB b v) (by omega)
  have hd := exD_bd h v
  have hl := dl_bd h v
  generalize lvB b (idxB b v) = x at *
  generalize lvB b (idxB b v + 1) = y at *
  generalize exD b v = d at *
  generalize vlB b (idxB b v) = z at *
  have b1 : x * d ≤ 20000 * d := Int.mul_le_mul_of_nonneg_right a2.2 (by omega)
  have b2 : -20000 * d ≤ x * d := Int.mul_le_mul_of_nonneg_right a2.1 (by omega)
  have b3 : 0 ≤ (v - z) * (y - x) := Int.mul_nonneg (by omega) (by omega)
  have b4 : (v - z) * (y - x) ≤ (v - z) * 40000 := Int.mul_le_mul_of_nonneg_left hl.2 (by omega)
  omega
theorem exN_bd {v : Int} (h0 : vlB b 0 ≤ v) (h1 : v ≤ 1000000000) : -20000000000000 ≤ exN b v ∧ exN b v ≤ 60000000000000 := by
 have := ex_parts h h0 h1
 unfold exN; omega
theorem wide_sum {r : Int} (hw : WideB b r) : ∀ i, i < b.rows.length → r * (lvB b i - lvB b 0) ≤ vlB b i - vlB b 0
  | 0, _ => by simp
  | i + 1, hi => by
    have h1 := wide_sum hw i (by omega)
    have h2 := hw i (by omega)
    have e : r * (lvB b (i + 1) - lvB b 0) = r * (lvB b i - lvB b 0) + r * (lvB b (i + 1) - lvB b i) := by rw [← Int.mul_add]; congr 1; omega
    omega
theorem ex_wide {r v : Int} (hr : 0 ≤ r) (hw : WideB b r) (h0 : vlB b 0 ≤ v) : r * (exN b v - lvB b 0 * exD b v) ≤ (v - vlB b 0) * exD b v := by
 have hi := idx_lt h v
 have hv : vlB b (idxB b v) ≤ v := idxR_vl b v h0 _
 have hd := exD_bd h v
 have h1 := wide_sum h hw (idxB b v) (by omega)
 have h2 : r * (lvB b (idxB b v + 1) - lvB b (idxB b v)) ≤ exD b v := hw _ (by omega)
 have e : exN b v = lvB b (idxB b v) * exD b v + (v - vlB b (idxB b v)) * (lvB b (idxB b v + 1) - lvB b (idxB b v)) := rfl
 rw [e]
 generalize idxB b v = i at *
 generalize exD b v = d at *
 generalize lvB b i = x at *
 generalize lvB b (i + 1) = y at *
 generalize vlB b i = z at *
 generalize lvB b 0 = x0 at *
 generalize vlB b 0 = z0 at *
 have e2 : r * (x * d + (v - z) * (y - x) - x0 * d) = r * (x - x0) * d + (v - z) * (r * (y - x)) := by
  simp only [Int.mul_add, Int.mul_sub, Int.sub_mul, Int.mul_assoc, Int.mul_left_comm, Int.mul_comm]; omega
 have a1 : r * (x - x0) * d ≤ (z - z0) * d := Int.mul_le_mul_of_nonneg_right h1 (by omega)
 have a2 : (v - z) * (r * (y - x)) ≤ (v - z) * d := Int.mul_le_mul_of_nonneg_left h2 (by omega)
 have e3 : (v - z0) * d = (v - z) * d + (z - z0) * d := by rw [← Int.add_mul]; congr 1; omega
 omega
end
theorem rowE_7 {b : Bas} {i : Nat} (h : (outB (brow b i).level (-20000) 20000 || outB (brow b i).volume 0 1000000000) = true) : rowE b i = 7 := if_pos h
theorem rowE_2 {b : Bas} {i : Nat} (h : (outB (brow b i).level (-20000) 20000 || outB (brow b i).volume 0 1000000000) = false) (h2 : 0 < (i : Int) ∧ ((brow b i).level ≤ (brow b (i - 1)).level ∨ (brow b i).volume ≤ (brow b (i - 1)).volume)) : rowE b i = 2 := by
 unfold rowE lvB vlB
 rw [if_neg (by rw [h]; decide), if_pos ⟨by omega, h2.2⟩]
theorem rowE_0 {b : Bas} {i : Nat} (h : (outB (brow b i).level (-20000) 20000 || outB (brow b i).volume 0 1000000000) = false) (h2 : ¬ 0 < (i : Int) ∨ (¬ (brow b i).level ≤ (brow b (i - 1)).level ∧ ¬ (brow b i).volume ≤ (brow b (i - 1)).volume)) : rowE b i = 0 := by
 unfold rowE lvB vlB
 rw [if_neg (by rw [h]; decide), if_neg (fun k => by omega)]
theorem bpolE_7 {b : Bas} {x : Pol} (h : ((outB x.sill (brow b 0).level 20000 || outB x.take 0 10000) || outB x.room 0 1000000000) = true) : bpolE b x = 7 := if_pos h
theorem bpolE_0 {b : Bas} {x : Pol} (h : ((outB x.sill (brow b 0).level 20000 || outB x.take 0 10000) || outB x.room 0 1000000000) = false) : bpolE b x = 0 := if_neg (by rw [show (outB x.sill (lvB b 0) 20000 || outB x.take 0 10000 || outB x.room 0 1000000000) = false from h]; decide)
theorem great_snoc {b : Bas} {k : Nat} {x : Pol} (hx : b.pols[k]? = some x) : max (greatB b (b.pols.take k)) x.take = greatB b (b.pols.take (k + 1)) := by
 rw [take_snoc hx]; unfold greatB; rw [List.foldl_append]; rfl
theorem great_bd {b : Bas} (h : (outB b.leak 0 10000 || outB b.over 0 10000 || outB b.crest (-20000) 20000) = false) (hp : ∀ x ∈ b.pols, isName x.name = true ∧ bpolE b x = 0 ∧ memB x.name [] = false) : 0 ≤ greatB b b.pols ∧ greatB b b.pols ≤ 10000 := by
 simp only [Bool.or_eq_false_iff, outB_false] at h
 obtain ⟨g1, -⟩ := great_ge (b := b) b.pols b.leak
 unfold greatB
 rcases great_mem (b := b) b.pols b.leak with e | ⟨x, hx, e⟩
 ·
  omega
 ·
  have k := (hp x hx).2.1
  unfold bpolE at k
  split at k
  ·
   simp at k
  ·
   next k1 =>
   simp only [Bool.not_eq_true, Bool.or_eq_false_iff, outB_false] at k1
   omega
theorem great_mul {g a c u v : Int} (h0 : 0 ≤ g) (h1 : g ≤ 10000) (ha : (-20000 ≤ a ∧ a ≤ 20000) ∧ 0 ≤ u ∧ u ≤ 1000000000) (hc : (-20000 ≤ c ∧ c ≤ 20000) ∧ 0 ≤ v ∧ v ≤ 1000000000) (hl : a < c ∧ u < v) : 0 ≤ g * (c - a) ∧ g * (c - a) ≤ 400000000 := by
 have b1 : 0 ≤ g * (c - a) := Int.mul_nonneg h0 (by omega)
 have b2 : g * (c - a) ≤ 10000 * (c - a) := Int.mul_le_mul_of_nonneg_right h1 (by omega)
 omega
theorem row_if {w : World} {a : Option Addr} {cap : Nat} {b : Bas} (h : Sl w 2 RBrow (.slice a b.rows.length cap) b.rows) (k : Nat) (hk : k ≤ b.rows.length) : ∃ y o, 0 < (k : Int) → a = some ⟨y, o, none⟩ ∧ Cells w y (o + ((k : Int) - 1).toNat * 2) (browC (brow b (k - 1))) := by
 by_cases h0 : 0 < (k : Int)
 ·
  obtain ⟨m, rfl⟩ : ∃ m, k = m + 1 := ⟨k - 1, by omega⟩
  obtain ⟨y, o, cs, ha, -, hc, hR, -⟩ := sl_at h (brow_get (b := b) (show m < b.rows.length by omega))
  obtain ⟨rfl, -⟩ := hR
  rw [show (((m + 1 : Nat) : Int) - 1).toNat = m by omega]
  exact ⟨y, o, fun _ => ⟨ha, hc⟩⟩
 ·
  exact ⟨0, 0, fun k => absurd k h0⟩
def flB (l : List Int) (i : Nat) : Int := l.getD i 0
theorem flB_get {l : List Int} {i : Nat} (h : i < l.length) : l[i]? = some (flB l i) := by simp [flB, List.getD, h]
def plB (b : Bas) (i : Nat) : Pol := b.pols.getD i ⟨⟨#[]⟩, 0, 0, 0⟩
theorem plB_get {b : Bas} {i : Nat} (h : i < b.pols.length) : b.pols[i]? = some (plB b i) := by simp [plB, List.getD, h]
theorem plB_ok {b : Bas} (h : BasOk b) {i : Nat} (hi : i < b.pols.length) : (lvB b 0 ≤ (plB b i).sill ∧ (plB b i).sill ≤ 20000) ∧ (0 ≤ (plB b i).take ∧ (plB b i).take ≤ 10000) ∧ (0 ≤ (plB b i).room ∧ (plB b i).room ≤ 1000000000) ∧ WideB b (plB b i).take :=
 have hm := List.mem_of_getElem? (plB_get hi)
 ⟨(h.pol _ hm).1, (h.pol _ hm).2.1, (h.pol _ hm).2.2, h.wpol _ hm⟩
def filBad (b : Bas) (l : List Int) (i : Nat) : Bool := outB (flB l i) 0 (plB b i).room
def stB (b : Bas) (s : BSt) : Int := if (checkB b).2.2 ≠ 0 then (checkB b).2.2 else if (s.filled.length : Int) ≠ b.pols.length then 2 else if outB s.volume (vlB b 0) 1000000000 = true then 7 else if ((List.range s.filled.length).any (filBad b s.filled)) = true then 7 else 0
structure BstOk (b : Bas) (s : BSt) : Prop where
 len : s.filled.length = b.pols.length
 vol : vlB b 0 ≤ s.volume ∧ s.volume ≤ 1000000000
 fil : ∀ i, i < b.pols.length → 0 ≤ flB s.filled i ∧ flB s.filled i ≤ (plB b i).room
def takeB (b : Bas) (v : Int) (x : Pol) (f : Int) : Int := if x.sill * exD b v < exN b v then min (x.take * (exN b v - x.sill * exD b v) / exD b v) (x.room - f) else 0
theorem take_bd {b : Bas} (h : BasOk b) {v f : Int} {x : Pol} (hv : vlB b 0 ≤ v) (hs : lvB b 0 ≤ x.sill) (ht : 0 ≤ x.take) (hw : WideB b x.take) (hf : 0 ≤ f ∧ f ≤ x.room) : 0 ≤ takeB b v x f ∧ takeB b v x f ≤ x.room - f ∧ takeB b v x f ≤ v - vlB b 0 := by
 unfold takeB
 split
 ·
  next h1 =>
  have hd := exD_bd h v
  have hw2 := ex_wide h ht hw hv
  have e1 : lvB b 0 * exD b v ≤ x.sill * exD b v := Int.mul_le_mul_of_nonneg_right hs (by omega)
  have e2 : x.take * (exN b v - x.sill * exD b v) ≤ x.take * (exN b v - lvB b 0 * exD b v) := Int.mul_le_mul_of_nonneg_left (by omega) ht
  have e3 : 0 ≤ x.take * (exN b v - x.sill * exD b v) := Int.mul_nonneg ht (by omega)
  have q0 := Int.ediv_nonneg e3 (show 0 ≤ exD b v by omega)
  have q1 : x.take * (exN b v - x.sill * exD b v) / exD b v ≤ v - vlB b 0 := Int.ediv_le_of_le_mul (by omega) (Int.le_trans e2 hw2)
  omega
 ·
  omega
def volP (b : Bas) (l : List Int) (v : Int) : Nat → Int
 | 0 => v
 | k + 1 => volP b l v k - takeB b (volP b l v k) (plB b k) (flB l k)
def tkP (b : Bas) (l : List Int) (v : Int) (k : Nat) : Int := takeB b (volP b l v k) (plB b k) (flB l k)
theorem volP_bd {b : Bas} (h : BasOk b) {l : List Int} {v : Int} (hf : ∀ i, i < b.pols.length → 0 ≤ flB l i ∧ flB l i ≤ (plB b i).room) (hv : vlB b 0 ≤ v ∧ v ≤ 1000000000) : ∀ k, k ≤ b.pols.length → vlB b 0 ≤ volP b l v k ∧ volP b l v k ≤ v
  | 0, _ => ⟨hv.1, Int.le_refl _⟩
  | k + 1, hk => by
    have ih := volP_bd h hf hv k (by omega)
    obtain ⟨p1, p2, p3, p4⟩ := plB_ok h (show k < b.pols.length by omega)
    have ht := take_bd h ih.1 p1.1 p2.1 p4 (hf k (by omega))
    rw [volP]; omega
theorem tkP_bd {b : Bas} (h : BasOk b) {l : List Int} {v : Int} (hf : ∀ i, i < b.pols.length → 0 ≤ flB l i ∧ flB l i ≤ (plB b i).room) (hv : vlB b 0 ≤ v ∧ v ≤ 1000000000) {k : Nat} (hk : k < b.pols.length) : 0 ≤ tkP b l v k ∧ tkP b l v k ≤ (plB b k).room - flB l k ∧ tkP b l v k ≤ volP b l v k - vlB b 0 := by
 have ih := volP_bd h hf hv k (by omega)
 obtain ⟨p1, p2, p3, p4⟩ := plB_ok h hk
 exact take_bd h ih.1 p1.1 p2.1 p4 (hf k hk)
def tksP (b : Bas) (l : List Int) (v : Int) (k : Nat) : List Int := (List.range k).map (tkP b l v)
def filP (b : Bas) (l : List Int) (v : Int) (k : Nat) : List Int := (List.range k).map fun i => flB l i + tkP b l v i
theorem tksP_succ (b : Bas) (l : List Int) (v : Int) (k : Nat) : tksP b l v (k + 1) = tksP b l v k ++ [tkP b l v k] := by unfold tksP; rw [List.range_succ, List.map_append]; rfl
theorem filP_succ (b : Bas) (l : List Int) (v : Int) (k : Nat) : filP b l v (k + 1) = filP b l v k ++ [flB l k + tkP b l v k] := by unfold filP; rw [List.range_succ, List.map_append]; rfl
theorem tksP_len (b : Bas) (l : List Int) (v : Int) (k : Nat) : (tksP b l v k).length = k := by simp [tksP]
theorem filP_len (b : Bas) (l : List Int) (v : Int) (k : Nat) : (filP b l v k).length = k := by simp [filP]
def mixP (b : Bas) (l : List Int) (v : Int) (k : Nat) : List Int := filP b l v k ++ l.drop k
theorem mixP_len {b : Bas} {l : List Int} {v : Int} {k : Nat} (h : k ≤ l.length) : (mixP b l v k).length = l.length := by unfold mixP; rw [List.length_append, filP_len, List.length_drop]; omega
theorem mixP_all {b : Bas} {l : List Int} {v : Int} {k : Nat} (h : k = l.length) : mixP b l v k = filP b l v k := by unfold mixP; rw [h, List.drop_length, List.append_nil]
theorem mixP_at {b : Bas} {l : List Int} {v : Int} {k : Nat} (h : k < l.length) : (mixP b l v k)[k]? = some (flB l k) := by
 unfold mixP
 rw [List.getElem?_append_right (by rw [filP_len]; exact Nat.le_refl _), filP_len, List.getElem?_drop, Nat.sub_self, Nat.add_zero, flB_get h]
theorem mixP_set {b : Bas} {l : List Int} {v : Int} {k : Nat} (h : k < l.length) : (mixP b l v k).set k (flB l k + tkP b l v k) = mixP b l v (k + 1) := by
 unfold mixP
 rw [filP_succ, List.set_append_right _ _ (by rw [filP_len]; exact Nat.le_refl _), filP_len, Nat.sub_self, List.drop_eq_getElem_cons h, List.set_cons_zero, List.append_assoc]; rfl
def leakB (b : Bas) (v o : Int) : Int := max (b.leak * (o * exD b v - exN b v) / exD b v) (vlB b 0 - v)
def ovB (b : Bas) (t : BTk) : Int := b.over * max 0 (t.outer - b.crest)
def v1B (s : BSt) (t : BTk) : Int := s.volume + t.river
def v2B (b : Bas) (s : BSt) (t : BTk) : Int := v1B s t + ovB b t
def lkB (b : Bas) (s : BSt) (t : BTk) : Int := leakB b (v2B b s t) t.outer
def v3B (b : Bas) (s : BSt) (t : BTk) : Int := v2B b s t + lkB b s t
def outV (b : Bas) (s : BSt) (t : BTk) : Int := min t.out (v3B b s t - vlB b 0)
def v4B (b : Bas) (s : BSt) (t : BTk) : Int := v3B b s t - outV b s t
def tkBad (t : BTk) : Bool := (outB t.outer (-20000) 20000 || outB t.river 0 10000000) || outB t.out 0 10000000
def stepE (b : Bas) (s : BSt) (t : BTk) : Int := if tkBad t = true then 7 else if 1000000000 < v1B s t then 3 else if 1000000000 < v2B b s t then 3 else if 1000000000 < v3B b s t then 3 else 0
def bstS (b : Bas) (s : BSt) (t : BTk) : BSt := ⟨volP b s.filled (v4B b s t) b.pols.length, filP b s.filled (v4B b s t) b.pols.length⟩
def stepF (b : Bas) (s : BSt) (t : BTk) : BFl := ⟨t.river, ovB b t, lkB b s t, outV b s t, tksP b s.filled (v4B b s t) b.pols.length⟩
structure TkOk (t : BTk) : Prop where
 outer : -20000 ≤ t.outer ∧ t.outer ≤ 20000
 river : 0 ≤ t.river ∧ t.river ≤ 10000000
 out : 0 ≤ t.out ∧ t.out ≤ 10000000
theorem tk_ok {t : BTk} (h : tkBad t = false) : TkOk t := by
 simp only [tkBad, Bool.or_eq_false_iff, outB_false] at h
 exact ⟨h.1.1, h.1.2, h.2⟩
theorem rate_mul {k z lo hi : Int} (hk : 0 ≤ k ∧ k ≤ 10000) (hz : -lo ≤ z ∧ z ≤ hi) (hl : 0 ≤ lo) (hh : 0 ≤ hi) : -(10000 * lo) ≤ k * z ∧ k * z ≤ 10000 * hi := by
 have a1 : k * z ≤ k * hi := Int.mul_le_mul_of_nonneg_left hz.2 hk.1
 have a2 : k * hi ≤ 10000 * hi := Int.mul_le_mul_of_nonneg_right hk.2 hh
 have a3 : k * (-lo) ≤ k * z := Int.mul_le_mul_of_nonneg_left hz.1 hk.1
 have a4 : k * lo ≤ 10000 * lo := Int.mul_le_mul_of_nonneg_right hk.2 hl
 have a5 : k * (-lo) = -(k * lo) := Int.mul_neg ..
 omega
section
variable {b : Bas} {s : BSt} {t : BTk} (hb : BasOk b) (hs : BstOk b s) (ht : TkOk t)
include hb hs ht
theorem ovB_bd : 0 ≤ ovB b t ∧ ovB b t ≤ 400000000 := by
 have h1 := hb.over
 have h2 := hb.crest
 have h3 := ht.outer
 have e1 : 0 ≤ b.over * max 0 (t.outer - b.crest) := Int.mul_nonneg h1.1 (by omega)
 have e2 : b.over * max 0 (t.outer - b.crest) ≤ 10000 * max 0 (t.outer - b.crest) := Int.mul_le_mul_of_nonneg_right h1.2 (by omega)
 unfold ovB; omega
theorem v1_bd : vlB b 0 ≤ v1B s t ∧ v1B s t ≤ 1010000000 := by have := hs.vol; have := ht.river; unfold v1B; omega
theorem v2_bd : vlB b 0 ≤ v2B b s t ∧ v2B b s t ≤ 1410000000 := by have := v1_bd hb hs ht; have := ovB_bd hb hs ht; unfold v2B; omega
theorem leak_mul {v : Int} (h0 : vlB b 0 ≤ v) (h1 : v ≤ 1000000000) : (-20000000000000 ≤ t.outer * exD b v ∧ t.outer * exD b v ≤ 20000000000000) ∧ -800000000000000000 ≤ b.leak * (t.outer * exD b v - exN b v) ∧ b.leak * (t.outer * exD b v - exN b v) ≤ 400000000000000000 := by
 have hd := exD_bd hb v
 have hn := exN_bd hb h0 h1
 have ho := ht.outer
 have hk := hb.leak
 have a1 : t.outer * exD b v ≤ 20000 * exD b v := Int.mul_le_mul_of_nonneg_right ho.2 (by omega)
 have a2 : -20000 * exD b v ≤ t.outer * exD b v := Int.mul_le_mul_of_nonneg_right ho.1 (by omega)
 have r := rate_mul (k := b.leak) (z := t.outer * exD b v - exN b v) (lo := 80000000000000) (hi := 40000000000000) hk ⟨by omega, by omega⟩ (by omega) (by omega)
 omega
theorem bquo_bd {x d lo hi : Int} (hd : 1 ≤ d) (h : -lo ≤ x ∧ x ≤ hi) (hl : 0 ≤ lo) (hh : 0 ≤ hi) : -lo ≤ x / d ∧ x / d ≤ hi := by
 constructor
 ·
  refine Int.le_ediv_of_mul_le (by omega) ?_
  have : lo * 1 ≤ lo * d := Int.mul_le_mul_of_nonneg_left hd hl
  have : -lo * d = -(lo * d) := Int.neg_mul ..
  omega
 ·
  refine Int.ediv_le_of_le_mul (by omega) ?_
  have : hi * 1 ≤ hi * d := Int.mul_le_mul_of_nonneg_left hd hh
  omega
theorem lk_bd (h1 : v2B b s t ≤ 1000000000) : vlB b 0 - v2B b s t ≤ lkB b s t ∧ -1000000000000000000 ≤ lkB b s t ∧ lkB b s t ≤ 400000000000000000 := by
 have h2 := v2_bd hb hs ht
 have h3 := leak_mul hb hs ht h2.1 h1
 have hq := bquo_bd hb hs ht (exD_bd hb (v2B b s t)).1 (lo := 800000000000000000) (hi := 400000000000000000) h3.2 (by omega) (by omega)
 have h0 := hb.vl 0 (by have := hb.len; omega)
 unfold lkB leakB; omega
theorem v3_bd (h1 : v2B b s t ≤ 1000000000) : vlB b 0 ≤ v3B b s t ∧ v3B b s t ≤ 401000000000000000 := by
 have := lk_bd hb hs ht h1
 unfold v3B; omega
theorem out_bd (h1 : v2B b s t ≤ 1000000000) : 0 ≤ outV b s t ∧ outV b s t ≤ v3B b s t - vlB b 0 := by
 have := v3_bd hb hs ht h1
 have := ht.out
 unfold outV; omega
theorem v4_bd (h1 : v2B b s t ≤ 1000000000) (h2 : v3B b s t ≤ 1000000000) : vlB b 0 ≤ v4B b s t ∧ v4B b s t ≤ 1000000000 := by
 have := out_bd hb hs ht h1
 unfold v4B; omega
theorem step_st (h1 : v2B b s t ≤ 1000000000) (h2 : v3B b s t ≤ 1000000000) : BstOk b (bstS b s t) := by
 have h4 := v4_bd hb hs ht h1 h2
 have hv := volP_bd hb hs.fil h4 b.pols.length (Nat.le_refl _)
 refine ⟨filP_len .., ⟨hv.1, by show volP _ _ _ _ ≤ _; omega⟩, fun i hi => ?_⟩
 have ht := tkP_bd hb hs.fil h4 hi
 have hf := hs.fil i hi
 have e : flB (bstS b s t).filled i = flB s.filled i + tkP b s.filled (v4B b s t) i := by
  show flB (filP _ _ _ _) i = _
  unfold flB filP; simp [List.getD, hi, flB]
 rw [e]; omega
end
theorem stepE_ok {b : Bas} {s : BSt} {t : BTk} (h : stepE b s t = 0) : tkBad t = false ∧ v1B s t ≤ 1000000000 ∧ v2B b s t ≤ 1000000000 ∧ v3B b s t ≤ 1000000000 := by
 unfold stepE at h
 split at h
 ·
  simp at h
 next h1 =>
 split at h
 ·
  simp at h
 next h2 =>
 split at h
 ·
  simp at h
 next h3 =>
 split at h
 ·
  simp at h
 next h4 => exact ⟨by simpa using h1, by omega, by omega, by omega⟩
def tkL (l : List BTk) (k : Nat) : BTk := l.getD k ⟨0, 0, 0⟩
def SrchB (b : Bas) (t : Int) (i : Nat) (is : Bool) : Prop := i ≤ b.rows.length ∧ (∀ k, k < i → vlB b k < t) ∧ (∀ k, i ≤ k → k < b.rows.length → t ≤ vlB b k) ∧ (is = true ↔ i < b.rows.length ∧ vlB b i = t)
theorem srch_idx {b : Bas} (hb : BasOk b) {v : Int} {i : Nat} {is : Bool} (h : SrchB b v i is) (h0 : vlB b 0 ≤ v) : min (if is = true then (i : Int) else (i : Int) - 1) ((b.rows.length : Int) - 2) = (idxB b v : Int) := by
  obtain ⟨h1, h2, h3, h4⟩ := h
  have hl := hb.len
  have key : ∀ j : Nat, j ≤ b.rows.length - 2 → (j = 0 ∨ vlB b j ≤ v) → (∀ k, j < k → k ≤ b.rows.length - 2 → v < vlB b k) → idxB b v = j := fun j a1 a2 a3 => idxR_eq b v a1 a2 a3
  cases hc : is with
  | true =>
    obtain ⟨k1, k2⟩ := h4.1 hc
    rw [if_pos rfl]
    by_cases hi : i ≤ b.rows.length - 2
    · rw [key i hi (.inr (by omega)) (fun k hk hk2 => by have := vl_mono hb (show i + 1 ≤ k by omega) (by omega); have := hb.vls i (by omega); omega)]; omega
    · rw [key (b.rows.length - 2) (Nat.le_refl _) (.inr (by have := h2 (b.rows.length - 2) (by omega); omega)) (fun k hk hk2 => by omega)]; omega
  | false =>
    have hne : ¬ (i < b.rows.length ∧ vlB b i = v) := fun k => by have := h4.2 k; rw [hc] at this; cases this
    rw [if_neg (by decide)]
    have hi0 : 0 < i := by
      rcases Nat.eq_zero_or_pos i with e | e
      · subst e
        have := h3 0 (Nat.le_refl _) (by omega)
        exact absurd ⟨by omega, by omega⟩ hne
      · exact e
    have hlast := h2 (i - 1) (by omega)
    by_cases hi : i - 1 ≤ b.rows.length - 2
    · rw [key (i - 1) hi (.inr (by omega)) (fun k hk hk2 => by
        have a := h3 i (Nat.le_refl _) (by omega)
        have := vl_mono hb (show i ≤ k by omega) (by omega)
        have : vlB b i ≠ v := fun e => hne ⟨by omega, e⟩
        omega)]; omega
    · rw [key (b.rows.length - 2) (Nat.le_refl _) (.inr (by have := h2 (b.rows.length - 2) (by omega); omega)) (fun k hk hk2 => by omega)]; omega
theorem cmpI_lt0 {a b : Int} : cmpI a b < 0 ↔ a < b := by unfold cmpI; split; · simp [*]
                                                          · split <;> simp <;> omega
theorem cmpI_eq0 {a b : Int} : cmpI a b = 0 ↔ a = b := by unfold cmpI; split; · simp; omega
                                                          · split <;> simp <;> omega
theorem btdiv_floor (a : Int) {b : Int} (hb : 0 < b) : (b.natAbs = b ∧ (a.tdiv b * b).natAbs ≤ a.natAbs) ∧ (a < a.tdiv b * b → a / b = a.tdiv b - 1) ∧ (¬ a < a.tdiv b * b → a / b = a.tdiv b) := by
  have hm := Int.mul_tdiv_add_tmod a b
  rw [Int.mul_comm] at hm
  have h1 := Int.tmod_lt_of_pos a hb
  have key : ∀ q r : Int, a = q * b + r → 0 ≤ r → r < b → a / b = q := fun q r e k1 k2 => ((Int.ediv_emod_unique hb).2 ⟨by rw [Int.mul_comm, e]; omega, k1, k2⟩).1
  rcases Int.le_total 0 a with h | h
  · have h2 := Int.tmod_nonneg b h
    have h3 : 0 ≤ a.tdiv b := Int.tdiv_nonneg h (by omega)
    have h4 : 0 ≤ a.tdiv b * b := Int.mul_nonneg h3 (by omega)
    exact ⟨by omega, by omega, fun _ => key _ (a.tmod b) (by omega) h2 h1⟩
  · have h2 : -b < a.tmod b ∧ a.tmod b ≤ 0 := by
      have e : (-a).tmod b = -(a.tmod b) := Int.neg_tmod a b
      have := Int.tmod_lt_of_pos (-a) hb
      have := Int.tmod_nonneg b (show 0 ≤ -a by omega)
      omega
    have h4 : a.tdiv b * b ≤ 0 := by
      have e : (-a).tdiv b = -(a.tdiv b) := Int.neg_tdiv a b
      have h3 : 0 ≤ (-a).tdiv b := Int.tdiv_nonneg (by omega) (by omega)
      have := Int.mul_nonneg h3 (show 0 ≤ b by omega)
      rw [e, Int.neg_mul] at this; omega
    refine ⟨by omega, fun hl => ?_, fun hl => key _ (a.tmod b) (by omega) (by omega) h1⟩
    exact key _ (a.tmod b + b) (by rw [Int.sub_mul, Int.one_mul]; omega) (by omega) (by omega)
theorem ovB_b {b : Bas} {t : BTk} (hb : BasOk b) (ht : -20000 ≤ t.outer ∧ t.outer ≤ 20000) : 0 ≤ ovB b t ∧ ovB b t ≤ 400000000 := by
 have h1 := hb.over
 have h2 := hb.crest
 have e1 : 0 ≤ b.over * max 0 (t.outer - b.crest) := Int.mul_nonneg h1.1 (by omega)
 have e2 : b.over * max 0 (t.outer - b.crest) ≤ 10000 * max 0 (t.outer - b.crest) := Int.mul_le_mul_of_nonneg_right h1.2 (by omega)
 unfold ovB; omega
theorem leak_m {b : Bas} {v o : Int} (hb : BasOk b) (ho : -20000 ≤ o ∧ o ≤ 20000) (h0 : vlB b 0 ≤ v) (h1 : v ≤ 1000000000) :
    (-9223372036854775000 ≤ -exN b v ∧ -exN b v ≤ 9223372036854775000) ∧ (-9223372036854775000 ≤ -o * exD b v ∧ -o * exD b v ≤ 9223372036854775000) ∧ (-9223372036854775000 ≤ -exN b v - -o * exD b v ∧ -exN b v - -o * exD b v ≤ 9223372036854775000) ∧
    (-9223372036854775000 ≤ b.leak * (-exN b v - -o * exD b v) ∧ b.leak * (-exN b v - -o * exD b v) ≤ 9223372036854775000) ∧ max (b.leak * (-exN b v - -o * exD b v) / exD b v) (vlB b 0 - v) = leakB b v o ∧ (-1000000000 ≤ vlB b 0 - v ∧ vlB b 0 - v ≤ 0) ∧ (-1000000000 ≤ leakB b v o ∧ leakB b v o ≤ 400000000000000000) := by
  have hd := exD_bd hb v
  have hn := exN_bd hb h0 h1
  have hv0 := hb.vl 0 (by have := hb.len; omega)
  have a1 : o * exD b v ≤ 20000 * exD b v := Int.mul_le_mul_of_nonneg_right ho.2 (by omega)
  have a2 : -20000 * exD b v ≤ o * exD b v := Int.mul_le_mul_of_nonneg_right ho.1 (by omega)
  have e : -o * exD b v = -(o * exD b v) := Int.neg_mul ..
  have e2 : -exN b v - -o * exD b v = o * exD b v - exN b v := by omega
  have r := rate_mul (k := b.leak) (z := o * exD b v - exN b v) (lo := 80000000000000) (hi := 40000000000000) hb.leak ⟨by omega, by omega⟩ (by omega) (by omega)
  have q : b.leak * (o * exD b v - exN b v) / exD b v ≤ 400000000000000000 := Int.ediv_le_of_le_mul (by omega) (by
    have : (400000000000000000 : Int) * 1 ≤ 400000000000000000 * exD b v := Int.mul_le_mul_of_nonneg_left hd.1 (by omega)
    omega)
  rw [e2]
  refine ⟨by omega, by omega, by omega, by omega, rfl, by omega, ?_⟩
  unfold leakB; omega
theorem take_m {b : Bas} {v : Int} {x : Pol} (hb : BasOk b) (h0 : vlB b 0 ≤ v) (h1 : v ≤ 1000000000) (hs : -20000 ≤ x.sill ∧ x.sill ≤ 20000) (ht : 0 ≤ x.take ∧ x.take ≤ 10000) :
    (-9223372036854775000 ≤ x.sill * exD b v ∧ x.sill * exD b v ≤ 9223372036854775000) ∧ (-9223372036854775000 ≤ exN b v - x.sill * exD b v ∧ exN b v - x.sill * exD b v ≤ 9223372036854775000) ∧ (-9223372036854775000 ≤ x.take * (exN b v - x.sill * exD b v) ∧ x.take * (exN b v - x.sill * exD b v) ≤ 9223372036854775000) := by
  have hd := exD_bd hb v
  have hn := exN_bd hb h0 h1
  have a1 : x.sill * exD b v ≤ 20000 * exD b v := Int.mul_le_mul_of_nonneg_right hs.2 (by omega)
  have a2 : -20000 * exD b v ≤ x.sill * exD b v := Int.mul_le_mul_of_nonneg_right hs.1 (by omega)
  have r := rate_mul (k := x.take) (z := exN b v - x.sill * exD b v) (lo := 80000000000000) (hi := 80000000000000) ht ⟨by omega, by omega⟩ (by omega) (by omega)
  exact ⟨by omega, by omega, by omega⟩
theorem take_some {b : Bas} {v f : Int} {x : Pol} (h : x.sill * exD b v < exN b v) : min (x.take * (exN b v - x.sill * exD b v) / exD b v) (x.room - f) = takeB b v x f := by unfold takeB; rw [if_pos h]
theorem take_none {b : Bas} {v f : Int} {x : Pol} (h : ¬ x.sill * exD b v < exN b v) : (0 : Int) = takeB b v x f := by unfold takeB; rw [if_neg h]
theorem bas_inj {a p a' p' : Value} {x y z : Value} (h : [a, x, y, z, p] = [a', x, y, z, p']) : a' = a ∧ p' = p := by simpa [eq_comm] using h
theorem slice_inj3 {a a' : Option Addr} {n n' c c' : Nat} (h : Value.slice a n c = .slice a' n' c') : a = a' ∧ n = n' ∧ c = c' := by simpa using h
theorem yIfaceG {P : Program} {ρ : Operand → Value} {w : World} {ty : TypeId} {T : TypeId} {x : Operand} {v : Value} {d : TypeDesc} (hx : ρ x = v) (hT : P.underlying T = some d) (hd : (match d with | .interface _ => false | _ => true) = true) : Y P ρ (.makeInterface T x) ty w (.iface T v) w := by
 cases d <;> first | (simp at hd; done) | simp [Y, xop, execOp, hx, Instr.makeInterface, run_underlying hT]
theorem yIdxA {P : Program} {ρ : Operand → Value} {w : World} {ty : TypeId} {T e : TypeId} {x i : Operand} {len : Nat} {vs : List Value} {v : Value} {m : Int} (hx : ρ x = .agg vs.toArray) (hi : ρ i = .int .i64 m) (hu : P.underlying T = some (.array len e)) (hs : ∀ w, (Go.sizeOf e).run P w = .ok 1 w) (ha : ∀ w, (isAgg e).run P w = .ok false w)
    (h0 : 0 ≤ m) (h1 : m < len) (hv : vs[m.toNat]? = some v) : Y P ρ (.index T x i) ty w v w := by
  have hv2 : vs.toArray[m.toNat * 1]? = some v := by rw [Nat.mul_one]; simpa using hv
  simp [Y, xop, execOp, hx, hi, Instr.index, run_underlying hu, asIntOf, h0, h1, hs, ha, part, hv2]
  all_goals (simp [List.getElem?_eq_some_iff] at hv; obtain ⟨hlt, he⟩ := hv; simp [hlt, he])
section
variable (b : Bas) (s : BSt) (t : BTk)
def vK : Nat → Int
 | 0 => s.volume | 1 => v1B s t | 2 => v2B b s t | 3 => v3B b s t | 4 => v4B b s t | _ => volP b s.filled (v4B b s t) b.pols.length
def rK : Nat → Int
 | 0 => 0 | _ => t.river
def oK : Nat → Int
 | 0 => 0 | 1 => 0 | _ => ovB b t
def lK : Nat → Int
 | 0 => 0 | 1 => 0 | 2 => 0 | _ => lkB b s t
def uK : Nat → Int
 | 0 => 0 | 1 => 0 | 2 => 0 | 3 => 0 | _ => outV b s t
def tK : Nat → List Int
 | 0 => [] | 1 => [] | 2 => [] | 3 => [] | 4 => [] | _ => tksP b s.filled (v4B b s t) b.pols.length
def fK : Nat → List Int
 | 0 => s.filled | 1 => s.filled | 2 => s.filled | 3 => s.filled | 4 => s.filled | _ => filP b s.filled (v4B b s t) b.pols.length
def gK : Nat → Bool
 | 0 => !decide (1000000000 < v1B s t) | 1 => !decide (1000000000 < v2B b s t) | 2 => !decide (1000000000 < v3B b s t) | _ => true
end
def fnK (a b c d e : Nat) : Nat → Nat
 | 0 => a | 1 => b | 2 => c | 3 => d | _ => e
theorem stepE_bad {b : Bas} {s : BSt} {t : BTk} (h : tkBad t = true) : stepE b s t = 7 := if_pos h
theorem stepE_long {b : Bas} {s : BSt} {t : BTk} {k : Nat} (h : tkBad t = false) (hk : k < 5) (hg : gK b s t k = false) : stepE b s t = 3 := by
 unfold stepE
 rw [if_neg (by rw [h]; decide)]
 rcases k with _ | _ | _ | k
 ·
  rw [if_pos (by simpa [gK] using hg)]
 ·
  split
  ·
   rfl
  ·
   rw [if_pos (by simpa [gK] using hg)]
 ·
  split
  ·
   rfl
  ·
   split
   ·
    rfl
   ·
    rw [if_pos (by simpa [gK] using hg)]
 ·
  simp [gK] at hg
theorem stepE_fine {b : Bas} {s : BSt} {t : BTk} (h : tkBad t = false) (hg : ∀ j, j < 5 → gK b s t j = true) : stepE b s t = 0 := by
 unfold stepE
 rw [if_neg (by rw [h]; decide), if_neg (by simpa [gK] using hg 0 (by omega)), if_neg (by simpa [gK] using hg 1 (by omega)), if_neg (by simpa [gK] using hg 2 (by omega))]
theorem gK_ok {b : Bas} {s : BSt} {t : BTk} (hg : ∀ j, j < 3 → gK b s t j = true) : v1B s t ≤ 1000000000 ∧ v2B b s t ≤ 1000000000 ∧ v3B b s t ≤ 1000000000 :=
 ⟨by simpa [gK] using hg 0 (by omega), by simpa [gK] using hg 1 (by omega), by simpa [gK] using hg 2 (by omega)⟩
theorem gK_1 {b : Bas} {s : BSt} {t : BTk} (h : gK b s t 1 = true) : v2B b s t ≤ 1000000000 := by simpa [gK] using h
theorem gK_2 {b : Bas} {s : BSt} {t : BTk} (h : gK b s t 2 = true) : v3B b s t ≤ 1000000000 := by simpa [gK] using h
def RBfl (w : World) (cs : List Value) (x : BFl) : Prop := ∃ tv, cs = [.int .i64 x.river, .int .i64 x.over, .int .i64 x.leak, .int .i64 x.out, tv] ∧ Sl w 1 RInt tv x.taken
theorem RBfl.stays : Stays RBfl := fun _ _ _ _ e ⟨fv, h1, h2⟩ => ⟨fv, h1, h2.ext RInt.stays e⟩
theorem front_perm {S : List Nat} {w0 w : World} {a c x : Item} {L : List Item} (h : StX S w0 w (x :: a :: c :: L)) : StX S w0 w (a :: x :: c :: L) := h.perm (List.Perm.swap _ _ _)
section
variable {b : Bas} {s : BSt} {t : BTk} (hb : BasOk b) (hs : BstOk b s) (ht : TkOk t) (hg : ∀ j, j < 5 → gK b s t j = true)
include hb hs ht hg
theorem step_st1 {w : World} {fv : Value} (h : w.ownsRow 0 3 1 fv s.filled.length ((fK b s t 5).flatMap encI)) : RBst w [.int .i64 (vK b s t 5), fv] (bstS b s t) := by
 obtain ⟨g1, g2, g3⟩ := gK_ok (fun j hj => hg j (by omega))
 have ho := step_st hb hs ht g2 g3
 have hv := hb.vl 0 (by have := hb.len; omega)
 have h1 := ho.vol
 have hlen : (bstS b s t).filled.length = s.filled.length := ho.len.trans hs.len.symm
 refine ⟨fv, rfl, by constructor <;> omega, sl_ints h (by show (filP _ _ _ _).length = _; rw [filP_len, hs.len]) (fun x hx => ?_), ?_⟩
 ·
  obtain ⟨i, hi, rfl⟩ := List.mem_map.1 (show x ∈ filP b s.filled (v4B b s t) b.pols.length from hx)
  have hi := List.mem_range.1 hi
  have k1 := hs.fil i hi
  have k2 := tkP_bd hb hs.fil (v4_bd hb hs ht g2 g3) hi
  have k3 := (plB_ok hb hi).2.2.1
  constructor <;> omega
 ·
  have := hb.npol
  show _ * 8 ≤ 140737488351232
  rw [hlen, hs.len]; omega
theorem step_fl1 {w : World} {tv : Value} (h : w.ownsRow 0 3 1 tv (tK b s t 5).length ((tK b s t 5).flatMap encI)) : RBfl w [.int .i64 (rK t 5), .int .i64 (oK b t 5), .int .i64 (lK b s t 5), .int .i64 (uK b s t 5), tv] (stepF b s t) := by
 obtain ⟨g1, g2, g3⟩ := gK_ok (fun j hj => hg j (by omega))
 refine ⟨tv, rfl, sl_ints h rfl (fun x hx => ?_)⟩
 obtain ⟨i, hi, rfl⟩ := List.mem_map.1 (show x ∈ tksP b s.filled (v4B b s t) b.pols.length from hx)
 have hi := List.mem_range.1 hi
 have k2 := tkP_bd hb hs.fil (v4_bd hb hs ht g2 g3) hi
 have k3 := (plB_ok hb hi).2.2.1
 have k1 := hs.fil i hi
 constructor <;> omega
end
def flC (x : BFl) (tv : Value) : List Value := [.int .i64 x.river, .int .i64 x.over, .int .i64 x.leak, .int .i64 x.out, tv]
end Bx
