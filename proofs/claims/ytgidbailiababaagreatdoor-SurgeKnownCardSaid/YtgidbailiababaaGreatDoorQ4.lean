/- Merged texts, part 4. -/
import Derived.Test.YtgidbailiababaaGreatDoorQ3
import Derived.ChangeKeysEq
set_option linter.all false
/- part Sw6 -/
namespace Go.Proofs.YtgidbailiababaaGreatDoor
open Go Bx
set_option maxHeartbeats 1000000 in
theorem c_wrongS {t : Sgt} {now : Int} {ov : Value} {bk : Nat} {T : TypeId} {fo : Fct} {am : Option Addr} {cm : Nat} {tick : Int} {w0 : World} (hk : RKn w0 bk T t now ov) (hok : SgOk t) (hf : FctOk t.ctrs.length fo) (htk : Bd tick 0 200000) : CV Tryz.prog 90 #[.pointer (some ⟨bk, 0, none⟩), .agg [.int .i64 fo.centre, .int .i64 fo.issued, .int .i64 fo.frm, .slice am fo.members.length cm].toArray, .int .i64 tick] w0 (.int .i64 (wrongS t fo tick)) := by
 obtain ⟨cv, ag, cg, ak, ck, ae, ce, aw, cw, ax, cx, hkb, hT, hG, hC, hF, hW, hX⟩ := id hk
 obtain ⟨g1, g2, g3, g4⟩ := wrong_bd hok hf htk
 have hcen := hf.centre
 have hiss := hf.issued
 have hcb := (hok.ctrs (i := fo.centre.toNat) (by omega)).base
 obtain ⟨bq, oq, cq, haq, hlq, hcq, hRq, -⟩ := sl_at hC (ctr_get (show fo.centre.toNat < t.ctrs.length by omega))
 obtain ⟨rfl, hnm, -⟩ := hRq
 refine enter Tryz.func90 rfl Tryz.ntmps90 rfl ?_
 have hS := St.start w0
 refine seq <| region ?_
 refine sbox hS rfl rfl ?_; clear hS; intro b4 w hS
 refine sv (yAsg rfl) <| nil <| cwQ <| seq <| region_mix (fun w => StX [] w0 w (blk b4 [.int .i64 fo.centre, .int .i64 fo.issued, .int .i64 fo.frm, .slice am fo.members.length cm] 61 :: [])) 11 mixed hS ?_
 clear hS; intro w hS
 refine f_step 0 (by kernel_rfl) rfl (fun c a a' w h => by obtain ⟨_, v, hv, _⟩ := h; cases hv) (by first | exact hS | exact hS.sub (.cons _ lrQ) | exact hS.sub (.cons _ (.cons _ lrQ)) | exact hS.sub (.cons _ (.cons _ (.cons _ lrQ))) | exact hS.sub (.cons _ (.cons _ (.cons _ (.cons _ lrQ))))) (fun w hS => (yMove rfl)) ?_
 refine f_step 1 (by kernel_rfl) rfl (fun c a a' w h => by obtain ⟨_, v, hv, _⟩ := h; cases hv) (by first | exact hS | exact hS.sub (.cons _ lrQ) | exact hS.sub (.cons _ (.cons _ lrQ)) | exact hS.sub (.cons _ (.cons _ (.cons _ lrQ))) | exact hS.sub (.cons _ (.cons _ (.cons _ (.cons _ lrQ))))) (fun w hS => (yNil rfl)) ?_
 refine f_step 2 (by kernel_rfl) rfl (fun c a a' w h => by obtain ⟨_, v, hv, _⟩ := h; cases hv) (by first | exact hS | exact hS.sub (.cons _ lrQ) | exact hS.sub (.cons _ (.cons _ lrQ)) | exact hS.sub (.cons _ (.cons _ (.cons _ lrQ))) | exact hS.sub (.cons _ (.cons _ (.cons _ (.cons _ lrQ))))) (fun w hS => (fa123_0 rfl)) ?_
 refine f_step 3 (by kernel_rfl) rfl (fun c a a' w h => by obtain ⟨_, v, hv, _⟩ := h; cases hv) (by first | exact hS | exact hS.sub (.cons _ lrQ) | exact hS.sub (.cons _ (.cons _ lrQ)) | exact hS.sub (.cons _ (.cons _ (.cons _ lrQ))) | exact hS.sub (.cons _ (.cons _ (.cons _ (.cons _ lrQ))))) (fun w hS => (fa29_5 rfl)) ?_
 refine f_step 4 (by kernel_rfl) rfl (fun c a a' w h => by obtain ⟨_, v, hv, _⟩ := h; cases hv) (by first | exact hS | exact hS.sub (.cons _ lrQ) | exact hS.sub (.cons _ (.cons _ lrQ)) | exact hS.sub (.cons _ (.cons _ (.cons _ lrQ))) | exact hS.sub (.cons _ (.cons _ (.cons _ (.cons _ lrQ))))) (fun w hS => (yLdB rfl Tryz.isAgg26 (hS.ext.get hkb) rfl)) ?_
 refine f_step 5 (by kernel_rfl) rfl (fun c a a' w h => by obtain ⟨_, v, hv, _⟩ := h; cases hv) (by first | exact hS | exact hS.sub (.cons _ lrQ) | exact hS.sub (.cons _ (.cons _ lrQ)) | exact hS.sub (.cons _ (.cons _ (.cons _ lrQ))) | exact hS.sub (.cons _ (.cons _ (.cons _ (.cons _ lrQ))))) (fun w hS => (fa61_0 rfl)) ?_
 refine f_step 6 (by kernel_rfl) rfl (fun c a a' w h => by obtain ⟨_, v, hv, _⟩ := h; cases hv) (by first | exact hS | exact hS.sub (.cons _ lrQ) | exact hS.sub (.cons _ (.cons _ lrQ)) | exact hS.sub (.cons _ (.cons _ (.cons _ lrQ))) | exact hS.sub (.cons _ (.cons _ (.cons _ (.cons _ lrQ))))) (fun w hS => (yLdB rfl Tryz.isAgg3 (hS.at _) rfl)) ?_
 refine f_step 7 (by kernel_rfl) rfl (fun c a a' w h => by obtain ⟨_, v, hv, _⟩ := h; cases hv) (by first | exact hS | exact hS.sub (.cons _ lrQ) | exact hS.sub (.cons _ (.cons _ lrQ)) | exact hS.sub (.cons _ (.cons _ (.cons _ lrQ))) | exact hS.sub (.cons _ (.cons _ (.cons _ (.cons _ lrQ))))) (fun w hS => (yIxa rfl haq (rfl.trans (congrArg (Value.int .i64) (show fo.centre = ((fo.centre.toNat : Nat) : Int) by omega))) Tryz.runUnderlying26 Tryz.sizeOf57 (by omega) (by omega))) ?_
 refine f_step 8 (by kernel_rfl) rfl (fun c a a' w h => by obtain ⟨_, v, hv, _⟩ := h; cases hv) (by first | exact hS | exact hS.sub (.cons _ lrQ) | exact hS.sub (.cons _ (.cons _ lrQ)) | exact hS.sub (.cons _ (.cons _ (.cons _ lrQ))) | exact hS.sub (.cons _ (.cons _ (.cons _ (.cons _ lrQ))))) (fun w hS => (yLdA rfl Tryz.isAgg57 Tryz.sizeOf57 (hcq.ext hS.ext) rfl)) ?_
 refine awQ <| a1Q 9 (by kernel_rfl) rfl ?_
 refine salloc hS Tryz.zeroValue57 rfl ?_; clear hS; intro b7 w hS
 refine nil ?_
 refine ⟨fun _ => (by first | exact hS | exact hS.sub (.cons _ lrQ) | exact hS.sub (.cons _ (.cons _ lrQ)) | exact hS.sub (.cons _ (.cons _ (.cons _ lrQ))) | exact hS.sub (.cons _ (.cons _ (.cons _ (.cons _ lrQ))))), ?_⟩
 refine awQ <| awQ <| a1Q 10 (by kernel_rfl) rfl ?_
 refine sst hS rfl rfl Tryz.sizeOf57 rfl rfl rfl rfl ?_; clear hS; intro w hS
 refine nil ?_
 refine ⟨fun _ => (by first | exact hS | exact hS.sub (.cons _ lrQ) | exact hS.sub (.cons _ (.cons _ lrQ)) | exact hS.sub (.cons _ (.cons _ (.cons _ lrQ))) | exact hS.sub (.cons _ (.cons _ (.cons _ (.cons _ lrQ))))), ?_⟩
 refine awQ <| a_end (by kernel_rfl) <| cwQ <| seq <| region <| sv (yAsg rfl) <| nil <| cwQ ?_
 refine seqJ (n := 36) (fun f w => f 7 = .pointer (some ⟨b7, 0, none⟩) ∧ f 8 = .int .i64 (hourS fo tick) ∧ StX [] w0 w [blk b7 (ctrC (ctr t.ctrs fo.centre.toNat)) 57, blk b4 [.int .i64 fo.centre, .int .i64 fo.issued, .int .i64 fo.frm, .slice am fo.members.length cm] 61] ∧ True) ?_ ?_
 ·
  refine seq <| region <| sv (yMove rfl) <| sv (fa61_1 rfl) <| sv (yLdB rfl Tryz.isAgg3 (hS.at _) rfl) <| sv (yGtr rfl rfl) <| nil <| cwQ ?_
  refine cond rfl (fun c21 => ?_) (fun c21 => ?_)
  ·
   simp only [BS, ne_eq] at c21
   refine region <| sv (yMove rfl) <| sv (fa61_1 rfl) <| sv (yLdB rfl Tryz.isAgg3 (hS.at _) rfl) <| sv (ySub rfl rfl ⟨by omega, by omega⟩) <| sv (yAdd rfl rfl ⟨by omega, by omega⟩) <| sv (ySub rfl rfl ⟨by omega, by omega⟩) <| sv (yQuoP rfl rfl ⟨by omega, by omega⟩ (by omega)) <| sv (yAsg rfl) ?_
   refine nil ?_
   exact ⟨_, rfl, rfl, (rfl.trans (congrArg (Value.int .i64) (by unfold hourS; rw [if_pos (show fo.issued < tick from c21)]; congr 1; omega))), hS, trivial⟩
  ·
   simp only [BS, ne_eq] at c21
   refine skip ?_
   exact ⟨_, rfl, rfl, (rfl.trans (congrArg (Value.int .i64) (by unfold hourS; rw [if_neg (show ¬ fo.issued < tick from c21)]))), hS, trivial⟩
 ·
  clear hS; rintro f w ⟨h7, h8, hS, -⟩
  refine seq <| region <| sv (fa57_2 h7) <| sv (yLdB rfl Tryz.isAgg3 (hS.at _) rfl) <| sv (fa57_3 h7) <| sv (yLdB rfl Tryz.isAgg3 (hS.at _) rfl) <| sv (yMove h8) <| sv (yMul rfl rfl ⟨by omega, by omega⟩) <| sv (yAdd rfl rfl ⟨by omega, by omega⟩) ?_
  refine sv (yAsg rfl) <| nil <| cwQ <| wp_ret ?_
  exact retV (res1 rfl rfl) hS.ext
set_option maxHeartbeats 2000000 in
theorem c_tubeS {m : Nat} {t : Sgt} {now : Int} {ov : Value} {bk : Nat} {T : TypeId} {fo : Fct} {am : Option Addr} {cm : Nat} {w0 : World} (hkn : RKn w0 bk T t now ov) (hok : SgOk t) (hg : Glb w0) (hf : FctOk t.ctrs.length fo) (hm : m < fo.members.length) (hM : Sl w0 1 RRow (.slice am fo.members.length cm) fo.members) : CE Tryz.prog 83 #[.pointer (some ⟨bk, 0, none⟩), .agg [.int .i64 fo.centre, .int .i64 fo.issued, .int .i64 fo.frm, .slice am fo.members.length cm].toArray, .int .i64 (m : Int)] w0 (fun u w' => St w0 w' [rowI (u) 74 2 t.ticks.toNat ((tubeS t fo (mem fo m)).flatMap spanC)]) := by
 obtain ⟨cv, ag, cg, ak, ck, ae, ce, aw, cw, ax, cx, hkb, hT, hG, hC, hF, hW, hX⟩ := id hkn
 have htk := hok.tk
 have hlev := hok.levs.2
 have hff := hf.frm
 have hml := hf.len _ (mem_in hm)
 obtain ⟨bm, om, cm2, ham, hlm, hcm, hRm, -⟩ := sl_at hM (show fo.members[m]? = some (mem fo m) by simp [mem, hm])
 obtain ⟨mv0, rfl, hms⟩ := hRm
 obtain ⟨a0, c0, rfl, h0cap, h0mx, -⟩ := id hms
 refine enter Tryz.func83 rfl Tryz.ntmps83 rfl ?_
 have hS := St.start w0
 refine seq <| region ?_
 refine sbox hS rfl rfl ?_; clear hS; intro b4 w hS
 refine sv (yAsg rfl) <| nil <| cwQ <| seq <| region_mix (fun w => StX [] w0 w (blk b4 [.int .i64 fo.centre, .int .i64 fo.issued, .int .i64 fo.frm, .slice am fo.members.length cm] 61 :: [])) 9 mixed hS ?_
 clear hS; intro w hS
 refine f_step 0 (by kernel_rfl) rfl (fun c a a' w h => by obtain ⟨_, v, hv, _⟩ := h; cases hv) (by first | exact hS | exact hS.sub (.cons _ lrQ) | exact hS.sub (.cons _ (.cons _ lrQ)) | exact hS.sub (.cons _ (.cons _ (.cons _ lrQ))) | exact hS.sub (.cons _ (.cons _ (.cons _ (.cons _ lrQ))))) (fun w hS => (yLdA rfl Tryz.isAgg74 Tryz.sizeOf74 (hg.ext hS.ext) rfl)) ?_
 refine f_step 2 (by kernel_rfl) rfl (fun c a a' w h => by obtain ⟨_, v, hv, _⟩ := h; cases hv) (by first | exact hS | exact hS.sub (.cons _ lrQ) | exact hS.sub (.cons _ (.cons _ lrQ)) | exact hS.sub (.cons _ (.cons _ (.cons _ lrQ))) | exact hS.sub (.cons _ (.cons _ (.cons _ (.cons _ lrQ))))) (fun w hS => (yMove rfl)) ?_
 refine f_step 3 (by kernel_rfl) rfl (fun c a a' w h => by obtain ⟨_, v, hv, _⟩ := h; cases hv) (by first | exact hS | exact hS.sub (.cons _ lrQ) | exact hS.sub (.cons _ (.cons _ lrQ)) | exact hS.sub (.cons _ (.cons _ (.cons _ lrQ))) | exact hS.sub (.cons _ (.cons _ (.cons _ (.cons _ lrQ))))) (fun w hS => (yNil rfl)) ?_
 refine f_step 4 (by kernel_rfl) rfl (fun c a a' w h => by obtain ⟨_, v, hv, _⟩ := h; cases hv) (by first | exact hS | exact hS.sub (.cons _ lrQ) | exact hS.sub (.cons _ (.cons _ lrQ)) | exact hS.sub (.cons _ (.cons _ (.cons _ lrQ))) | exact hS.sub (.cons _ (.cons _ (.cons _ (.cons _ lrQ))))) (fun w hS => (fa123_0 rfl)) ?_
 refine f_step 5 (by kernel_rfl) rfl (fun c a a' w h => by obtain ⟨_, v, hv, _⟩ := h; cases hv) (by first | exact hS | exact hS.sub (.cons _ lrQ) | exact hS.sub (.cons _ (.cons _ lrQ)) | exact hS.sub (.cons _ (.cons _ (.cons _ lrQ))) | exact hS.sub (.cons _ (.cons _ (.cons _ (.cons _ lrQ))))) (fun w hS => (fa29_4 rfl)) ?_
 refine f_step 6 (by kernel_rfl) rfl (fun c a a' w h => by obtain ⟨_, v, hv, _⟩ := h; cases hv) (by first | exact hS | exact hS.sub (.cons _ lrQ) | exact hS.sub (.cons _ (.cons _ lrQ)) | exact hS.sub (.cons _ (.cons _ (.cons _ lrQ))) | exact hS.sub (.cons _ (.cons _ (.cons _ (.cons _ lrQ))))) (fun w hS => (Y.to (yLdB rfl Tryz.isAgg3 (hS.ext.get hkb) rfl) (congrArg (Value.int .i64) (show t.ticks = ((t.ticks.toNat : Nat) : Int) by omega)))) ?_
 refine awQ <| a1Q 1 (by kernel_rfl) rfl ?_
 refine sbslice hS Tryz.underlying121 Tryz.sizeOf74 rfl Tryz.zeroValue74 rfl (.cons rfl rfl .nil) rfl ?_; clear hS; intro b13 w hS
 refine nil ?_
 refine ⟨fun _ => (by first | exact hS | exact hS.sub (.cons _ lrQ) | exact hS.sub (.cons _ (.cons _ lrQ)) | exact hS.sub (.cons _ (.cons _ (.cons _ lrQ))) | exact hS.sub (.cons _ (.cons _ (.cons _ (.cons _ lrQ))))), ?_⟩
 refine awQ <| awQ <| a1Q 7 (by kernel_rfl) rfl ?_
 refine scall Tryz.call140 (.cons rfl (.cons rfl .nil)) (c_RepeatS (k := t.ticks.toNat) (s := ⟨-20000, 20000⟩) (by omega) (hS.at b13)) ?_
 rintro tv w hM2; replace hS := hS.call1 hM2; clear hM2
 obtain ⟨g7, cap7, rfl, -⟩ := row_some (hS.row tv) (by omega)
 refine nil ?_
 refine ⟨fun _ => (by first | exact hS | exact hS.sub (.cons _ lrQ) | exact hS.sub (.cons _ (.cons _ lrQ)) | exact hS.sub (.cons _ (.cons _ (.cons _ lrQ))) | exact hS.sub (.cons _ (.cons _ (.cons _ (.cons _ lrQ))))), ?_⟩
 refine awQ ?_
 refine f_step 8 (by kernel_rfl) rfl (fun c a a' w h => by obtain ⟨_, v, hv, _⟩ := h; cases hv) (by first | exact hS | exact hS.sub (.cons _ lrQ) | exact hS.sub (.cons _ (.cons _ lrQ)) | exact hS.sub (.cons _ (.cons _ (.cons _ lrQ))) | exact hS.sub (.cons _ (.cons _ (.cons _ (.cons _ lrQ))))) (fun w hS => (yAsg rfl)) ?_
 refine a_end (by kernel_rfl) <| cwQ <| seq <| seq <| region <| sv (fa61_3 rfl) <| sv (yLdB rfl Tryz.isAgg59 (hS.at _) rfl) <| sv (yMove rfl) <| sv (yIxa rfl ham rfl Tryz.runUnderlying59 Tryz.sizeOf39 (by omega) (by omega)) ?_
 refine sv (yLd rfl Tryz.isAgg39 (hcm.ext hS.ext).one) <| sv (yLen rfl Tryz.underlying39) <| sv (yMove rfl) <| nil <| cwQ <| block ?_
 refine loop (fun f w zz => ∃ (k : Nat), f 0 = .pointer (some ⟨bk, 0, none⟩) ∧ f 4 = .pointer (some ⟨b4, 0, none⟩) ∧ f 7 = .slice (some ⟨g7, 0, none⟩) t.ticks.toNat cap7 ∧ f 24 = .slice a0 (mem fo m).length c0 ∧ f 25 = .int .i64 ((mem fo m).length : Int) ∧ f 26 = .int .i64 (k : Int) ∧ StX [] w0 w [rowI (.slice (some ⟨g7, 0, none⟩) t.ticks.toNat cap7) 74 2 t.ticks.toNat ((tubeS t fo ((mem fo m).take k)).flatMap spanC), blk b4 [.int .i64 fo.centre, .int .i64 fo.issued, .int .i64 fo.frm, .slice am fo.members.length cm] 61] ∧ (k ≤ (mem fo m).length) ∧ zz = (mem fo m).length - k) _ ⟨_, rfl, 0, rfl, rfl, rfl, rfl, rfl, rfl, (by rw [List.take_zero, tube_0]; exact hS.sub (.cons_cons _ (.cons _ lrQ))), (Nat.zero_le _), rfl⟩ ?_
 clear hS
 rintro f w _ ⟨k, h0, h4, h7, h24, h25, h26, hS, hk, rfl⟩
 refine seq <| region <| sv (yLss h26 h25) <| nil <| cwQ <| seq ?_
 refine cond rfl (fun c27 => ?_) (fun c27 => ?_)
 ·
  simp only [BS, ne_eq] at c27
  have hkl : k < (mem fo m).length := by omega
  obtain ⟨bx, ox, cx2, hax, hlx, hcx, hRx, -⟩ := sl_at hms (show (mem fo m)[k]? = some ((mem fo m).getD k 0) by simp [hkl])
  obtain ⟨rfl, -⟩ := hRx
  have hvb := mem_val hf hm hkl
  refine skip <| cwQ <| seq <| block <| seq <| region <| sv (yMove h26) <| sv (yIxa h24 hax h26 Tryz.runUnderlying39 Tryz.sizeOf3 (by omega) (by omega)) <| sv (yLd rfl Tryz.isAgg3 (hcx.ext hS.ext).one) ?_
  refine sv (yAsg rfl) <| sv (yAsg rfl) <| nil <| cwQ <| seq <| region_draw mixed (by kernel_rfl) hS <| qv (fun w hS => (fa61_2 h4)) <| qv (fun w hS => (yLdB rfl Tryz.isAgg3 (hS.at _) rfl)) <| qv (fun w hS => (yMove rfl)) ?_
  refine qv (fun w hS => (yAdd rfl rfl ⟨by omega, by omega⟩)) <| qv (fun w hS => (yMove h0)) <| qv (fun w hS => (yNil rfl)) <| qv (fun w hS => (fa123_0 rfl)) <| qv (fun w hS => (fa29_3 rfl)) <| qv (fun w hS => (yLdB rfl Tryz.isAgg3 (hS.ext.get hkb) rfl)) <| qv (fun w hS => (ySub rfl rfl ⟨by omega, by omega⟩)) <| qv (fun w hS => (yAsg rfl)) ?_
  clear hS; refine qnil (fun w hS => ?_)
  refine cwQ <| seq <| seq <| region <| sv (yMove rfl) <| sv (yMove h0) <| sv (yNil rfl) <| sv (fa123_0 rfl) <| sv (fa29_4 rfl) ?_
  refine sv (yLdB rfl Tryz.isAgg3 (hS.ext.get hkb) rfl) <| sv (ySub rfl rfl ⟨by omega, by omega⟩) ?_
  refine scall Tryz.call53 (.cons rfl (.cons rfl (.cons rfl .nil))) c_outS ?_
  rintro _ w ⟨rfl, hE⟩; replace hS := hS.step hE; clear hE
  refine nil <| cwQ ?_
  refine cond rfl (fun c48 => ?_) (fun c48 => ?_)
  ·
   have hout : ¬ (0 ≤ fo.frm + k - t.frm ∧ fo.frm + k - t.frm < t.ticks) := fun hh => by rw [outB_false.2 ⟨hh.1, by omega⟩] at c48; cases c48
   refine exit <| cwQ <| region <| sv (yAdd h26 rfl ⟨by omega, by omega⟩) <| sv (yMove rfl) <| nil ?_
   exact ⟨_, _, rfl, ⟨k + 1, h0, h4, h7, h24, h25, rfl, (by rw [tube_out hkl hout]; exact hS), (by omega), rfl⟩, by omega⟩
  ·
   have hin := outB_false.1 c48
   obtain ⟨i0, hi0⟩ : ∃ i0 : Nat, fo.frm + k - t.frm = i0 := ⟨_, (Int.toNat_of_nonneg hin.1).symm⟩
   have hib : i0 < t.ticks.toNat := by omega
   obtain ⟨bW, oW, cW, haW, hlW, hcW, hRW, -⟩ := sl_at hW (tidesS_get hib)
   obtain ⟨rfl, -⟩ := hRW
   have htd := tide_sbd hok i0
   unfold SBd at htd
   have hwb := wrong_bd hok hf (tick_at hok hib)
   refine skip <| cwQ <| seq <| region_draw mixed (by kernel_rfl) hS <| qv (fun w hS => (yMove h0)) <| qv (fun w hS => (yLdBA h4 Tryz.isAgg61 Tryz.sizeOf61 (hS.at _) rfl rfl)) <| qv (fun w hS => (yMove h0)) <| qv (fun w hS => (yNil rfl)) <| qv (fun w hS => (fa123_0 rfl)) ?_
   refine qv (fun w hS => (fa29_3 rfl)) <| qv (fun w hS => (yLdB rfl Tryz.isAgg3 (hS.ext.get hkb) rfl)) <| qv (fun w hS => (yMove rfl)) <| qv (fun w hS => (Y.to (yAdd rfl rfl ⟨by omega, by omega⟩) (congrArg (Value.int .i64) (show t.frm + (fo.frm + k - t.frm) = t.frm + (i0 : Int) by omega)))) <| qcall Tryz.call90 (.cons rfl (.cons rfl (.cons rfl .nil))) (fun w hS => (c_wrongS (hkn.ext hS.ext) hok hf (tick_at hok hib))) <| qv (fun w hS => (yAsg rfl)) ?_
   clear hS; refine qnil (fun w hS => ?_)
   refine cwQ <| region_mix (fun w => StX [] w0 w (rowI (.slice (some ⟨g7, 0, none⟩) t.ticks.toNat cap7) 74 2 t.ticks.toNat ((tubeS t fo ((mem fo m).take k)).flatMap spanC) :: blk b4 [.int .i64 fo.centre, .int .i64 fo.issued, .int .i64 fo.frm, .slice am fo.members.length cm] 61 :: [])) 28 mixed hS ?_
   clear hS; intro w hS
   refine f_step 0 (by kernel_rfl) rfl (fun c a a' w h => by obtain ⟨_, v, hv, _⟩ := h; cases hv) (by first | exact hS | exact hS.sub (.cons _ lrQ) | exact hS.sub (.cons _ (.cons _ lrQ)) | exact hS.sub (.cons _ (.cons _ (.cons _ lrQ))) | exact hS.sub (.cons _ (.cons _ (.cons _ (.cons _ lrQ))))) (fun w hS => (yMove h7)) ?_
   refine f_step 1 (by kernel_rfl) rfl (fun c a a' w h => by obtain ⟨_, v, hv, _⟩ := h; cases hv) (by first | exact hS | exact hS.sub (.cons _ lrQ) | exact hS.sub (.cons _ (.cons _ lrQ)) | exact hS.sub (.cons _ (.cons _ (.cons _ lrQ))) | exact hS.sub (.cons _ (.cons _ (.cons _ (.cons _ lrQ))))) (fun w hS => (Y.to (yMove rfl) (congrArg (Value.int .i64) hi0))) ?_
   refine f_step 2 (by kernel_rfl) rfl (fun c a a' w h => by obtain ⟨_, v, hv, _⟩ := h; cases hv) (by first | exact hS | exact hS.sub (.cons _ lrQ) | exact hS.sub (.cons _ (.cons _ lrQ)) | exact hS.sub (.cons _ (.cons _ (.cons _ lrQ))) | exact hS.sub (.cons _ (.cons _ (.cons _ (.cons _ lrQ))))) (fun w hS => (yMove h0)) ?_
   refine f_step 3 (by kernel_rfl) rfl (fun c a a' w h => by obtain ⟨_, v, hv, _⟩ := h; cases hv) (by first | exact hS | exact hS.sub (.cons _ lrQ) | exact hS.sub (.cons _ (.cons _ lrQ)) | exact hS.sub (.cons _ (.cons _ (.cons _ lrQ))) | exact hS.sub (.cons _ (.cons _ (.cons _ (.cons _ lrQ))))) (fun w hS => (yNil rfl)) ?_
   refine f_step 4 (by kernel_rfl) rfl (fun c a a' w h => by obtain ⟨_, v, hv, _⟩ := h; cases hv) (by first | exact hS | exact hS.sub (.cons _ lrQ) | exact hS.sub (.cons _ (.cons _ lrQ)) | exact hS.sub (.cons _ (.cons _ (.cons _ lrQ))) | exact hS.sub (.cons _ (.cons _ (.cons _ (.cons _ lrQ))))) (fun w hS => (fa123_2 rfl)) ?_
   refine f_step 5 (by kernel_rfl) rfl (fun c a a' w h => by obtain ⟨_, v, hv, _⟩ := h; cases hv) (by first | exact hS | exact hS.sub (.cons _ lrQ) | exact hS.sub (.cons _ (.cons _ lrQ)) | exact hS.sub (.cons _ (.cons _ (.cons _ lrQ))) | exact hS.sub (.cons _ (.cons _ (.cons _ (.cons _ lrQ))))) (fun w hS => (yLdB rfl Tryz.isAgg121 (hS.ext.get hkb) rfl)) ?_
   refine f_step 6 (by kernel_rfl) rfl (fun c a a' w h => by obtain ⟨_, v, hv, _⟩ := h; cases hv) (by first | exact hS | exact hS.sub (.cons _ lrQ) | exact hS.sub (.cons _ (.cons _ lrQ)) | exact hS.sub (.cons _ (.cons _ (.cons _ lrQ))) | exact hS.sub (.cons _ (.cons _ (.cons _ (.cons _ lrQ))))) (fun w hS => (Y.to (yMove rfl) (congrArg (Value.int .i64) hi0))) ?_
   refine f_step 7 (by kernel_rfl) rfl (fun c a a' w h => by obtain ⟨_, v, hv, _⟩ := h; cases hv) (by first | exact hS | exact hS.sub (.cons _ lrQ) | exact hS.sub (.cons _ (.cons _ lrQ)) | exact hS.sub (.cons _ (.cons _ (.cons _ lrQ))) | exact hS.sub (.cons _ (.cons _ (.cons _ (.cons _ lrQ))))) (fun w hS => (yIxa rfl haW rfl Tryz.runUnderlying121 Tryz.sizeOf74 (by omega) (by omega))) ?_
   refine f_step 8 (by kernel_rfl) rfl (fun c a a' w h => by obtain ⟨_, v, hv, _⟩ := h; cases hv) (by first | exact hS | exact hS.sub (.cons _ lrQ) | exact hS.sub (.cons _ (.cons _ lrQ)) | exact hS.sub (.cons _ (.cons _ (.cons _ lrQ))) | exact hS.sub (.cons _ (.cons _ (.cons _ (.cons _ lrQ))))) (fun w hS => (fa74_0 rfl)) ?_
   refine f_step 9 (by kernel_rfl) rfl (fun c a a' w h => by obtain ⟨_, v, hv, _⟩ := h; cases hv) (by first | exact hS | exact hS.sub (.cons _ lrQ) | exact hS.sub (.cons _ (.cons _ lrQ)) | exact hS.sub (.cons _ (.cons _ (.cons _ lrQ))) | exact hS.sub (.cons _ (.cons _ (.cons _ (.cons _ lrQ))))) (fun w hS => (yLd rfl Tryz.isAgg3 ((hcW.ext hS.ext).at (j := 0) rfl))) ?_
   refine f_step 10 (by kernel_rfl) rfl (fun c a a' w h => by obtain ⟨_, v, hv, _⟩ := h; cases hv) (by first | exact hS | exact hS.sub (.cons _ lrQ) | exact hS.sub (.cons _ (.cons _ lrQ)) | exact hS.sub (.cons _ (.cons _ (.cons _ lrQ))) | exact hS.sub (.cons _ (.cons _ (.cons _ (.cons _ lrQ))))) (fun w hS => (yMove rfl)) ?_
   refine f_step 11 (by kernel_rfl) rfl (fun c a a' w h => by obtain ⟨_, v, hv, _⟩ := h; cases hv) (by first | exact hS | exact hS.sub (.cons _ lrQ) | exact hS.sub (.cons _ (.cons _ lrQ)) | exact hS.sub (.cons _ (.cons _ (.cons _ lrQ))) | exact hS.sub (.cons _ (.cons _ (.cons _ (.cons _ lrQ))))) (fun w hS => (yAdd rfl rfl ⟨by omega, by omega⟩)) ?_
   refine f_step 12 (by kernel_rfl) rfl (fun c a a' w h => by obtain ⟨_, v, hv, _⟩ := h; cases hv) (by first | exact hS | exact hS.sub (.cons _ lrQ) | exact hS.sub (.cons _ (.cons _ lrQ)) | exact hS.sub (.cons _ (.cons _ (.cons _ lrQ))) | exact hS.sub (.cons _ (.cons _ (.cons _ (.cons _ lrQ))))) (fun w hS => (yMove rfl)) ?_
   refine f_step 13 (by kernel_rfl) rfl (fun c a a' w h => by obtain ⟨_, v, hv, _⟩ := h; cases hv) (by first | exact hS | exact hS.sub (.cons _ lrQ) | exact hS.sub (.cons _ (.cons _ lrQ)) | exact hS.sub (.cons _ (.cons _ (.cons _ lrQ))) | exact hS.sub (.cons _ (.cons _ (.cons _ (.cons _ lrQ))))) (fun w hS => (ySub rfl rfl ⟨by omega, by omega⟩)) ?_
   refine f_step 14 (by kernel_rfl) rfl (fun c a a' w h => by obtain ⟨_, v, hv, _⟩ := h; cases hv) (by first | exact hS | exact hS.sub (.cons _ lrQ) | exact hS.sub (.cons _ (.cons _ lrQ)) | exact hS.sub (.cons _ (.cons _ (.cons _ lrQ))) | exact hS.sub (.cons _ (.cons _ (.cons _ (.cons _ lrQ))))) (fun w hS => (yMove h0)) ?_
   refine f_step 15 (by kernel_rfl) rfl (fun c a a' w h => by obtain ⟨_, v, hv, _⟩ := h; cases hv) (by first | exact hS | exact hS.sub (.cons _ lrQ) | exact hS.sub (.cons _ (.cons _ lrQ)) | exact hS.sub (.cons _ (.cons _ (.cons _ lrQ))) | exact hS.sub (.cons _ (.cons _ (.cons _ (.cons _ lrQ))))) (fun w hS => (yNil rfl)) ?_
   refine f_step 16 (by kernel_rfl) rfl (fun c a a' w h => by obtain ⟨_, v, hv, _⟩ := h; cases hv) (by first | exact hS | exact hS.sub (.cons _ lrQ) | exact hS.sub (.cons _ (.cons _ lrQ)) | exact hS.sub (.cons _ (.cons _ (.cons _ lrQ))) | exact hS.sub (.cons _ (.cons _ (.cons _ (.cons _ lrQ))))) (fun w hS => (fa123_2 rfl)) ?_
   refine f_step 17 (by kernel_rfl) rfl (fun c a a' w h => by obtain ⟨_, v, hv, _⟩ := h; cases hv) (by first | exact hS | exact hS.sub (.cons _ lrQ) | exact hS.sub (.cons _ (.cons _ lrQ)) | exact hS.sub (.cons _ (.cons _ (.cons _ lrQ))) | exact hS.sub (.cons _ (.cons _ (.cons _ (.cons _ lrQ))))) (fun w hS => (yLdB rfl Tryz.isAgg121 (hS.ext.get hkb) rfl)) ?_
   refine f_step 18 (by kernel_rfl) rfl (fun c a a' w h => by obtain ⟨_, v, hv, _⟩ := h; cases hv) (by first | exact hS | exact hS.sub (.cons _ lrQ) | exact hS.sub (.cons _ (.cons _ lrQ)) | exact hS.sub (.cons _ (.cons _ (.cons _ lrQ))) | exact hS.sub (.cons _ (.cons _ (.cons _ (.cons _ lrQ))))) (fun w hS => (Y.to (yMove rfl) (congrArg (Value.int .i64) hi0))) ?_
   refine f_step 19 (by kernel_rfl) rfl (fun c a a' w h => by obtain ⟨_, v, hv, _⟩ := h; cases hv) (by first | exact hS | exact hS.sub (.cons _ lrQ) | exact hS.sub (.cons _ (.cons _ lrQ)) | exact hS.sub (.cons _ (.cons _ (.cons _ lrQ))) | exact hS.sub (.cons _ (.cons _ (.cons _ (.cons _ lrQ))))) (fun w hS => (yIxa rfl haW rfl Tryz.runUnderlying121 Tryz.sizeOf74 (by omega) (by omega))) ?_
   refine f_step 20 (by kernel_rfl) rfl (fun c a a' w h => by obtain ⟨_, v, hv, _⟩ := h; cases hv) (by first | exact hS | exact hS.sub (.cons _ lrQ) | exact hS.sub (.cons _ (.cons _ lrQ)) | exact hS.sub (.cons _ (.cons _ (.cons _ lrQ))) | exact hS.sub (.cons _ (.cons _ (.cons _ (.cons _ lrQ))))) (fun w hS => (fa74_1 rfl)) ?_
   refine f_step 21 (by kernel_rfl) rfl (fun c a a' w h => by obtain ⟨_, v, hv, _⟩ := h; cases hv) (by first | exact hS | exact hS.sub (.cons _ lrQ) | exact hS.sub (.cons _ (.cons _ lrQ)) | exact hS.sub (.cons _ (.cons _ (.cons _ lrQ))) | exact hS.sub (.cons _ (.cons _ (.cons _ (.cons _ lrQ))))) (fun w hS => (yLd rfl Tryz.isAgg3 ((hcW.ext hS.ext).at (j := 1) rfl))) ?_
   refine f_step 22 (by kernel_rfl) rfl (fun c a a' w h => by obtain ⟨_, v, hv, _⟩ := h; cases hv) (by first | exact hS | exact hS.sub (.cons _ lrQ) | exact hS.sub (.cons _ (.cons _ lrQ)) | exact hS.sub (.cons _ (.cons _ (.cons _ lrQ))) | exact hS.sub (.cons _ (.cons _ (.cons _ (.cons _ lrQ))))) (fun w hS => (yMove rfl)) ?_
   refine f_step 23 (by kernel_rfl) rfl (fun c a a' w h => by obtain ⟨_, v, hv, _⟩ := h; cases hv) (by first | exact hS | exact hS.sub (.cons _ lrQ) | exact hS.sub (.cons _ (.cons _ lrQ)) | exact hS.sub (.cons _ (.cons _ (.cons _ lrQ))) | exact hS.sub (.cons _ (.cons _ (.cons _ (.cons _ lrQ))))) (fun w hS => (yAdd rfl rfl ⟨by omega, by omega⟩)) ?_
   refine f_step 24 (by kernel_rfl) rfl (fun c a a' w h => by obtain ⟨_, v, hv, _⟩ := h; cases hv) (by first | exact hS | exact hS.sub (.cons _ lrQ) | exact hS.sub (.cons _ (.cons _ lrQ)) | exact hS.sub (.cons _ (.cons _ (.cons _ lrQ))) | exact hS.sub (.cons _ (.cons _ (.cons _ (.cons _ lrQ))))) (fun w hS => (yMove rfl)) ?_
   refine f_step 25 (by kernel_rfl) rfl (fun c a a' w h => by obtain ⟨_, v, hv, _⟩ := h; cases hv) (by first | exact hS | exact hS.sub (.cons _ lrQ) | exact hS.sub (.cons _ (.cons _ lrQ)) | exact hS.sub (.cons _ (.cons _ (.cons _ lrQ))) | exact hS.sub (.cons _ (.cons _ (.cons _ (.cons _ lrQ))))) (fun w hS => (yAdd rfl rfl ⟨by omega, by omega⟩)) ?_
   refine f_step 26 (by kernel_rfl) rfl (fun c a a' w h => by obtain ⟨_, v, hv, _⟩ := h; cases hv) (by first | exact hS | exact hS.sub (.cons _ lrQ) | exact hS.sub (.cons _ (.cons _ lrQ)) | exact hS.sub (.cons _ (.cons _ (.cons _ lrQ))) | exact hS.sub (.cons _ (.cons _ (.cons _ (.cons _ lrQ))))) (fun w hS => (yBuild Tryz.zeroValue74 rfl pl74 (.cons rfl rfl (.cons rfl rfl .nil)) rfl)) ?_
   refine f_step 27 (by kernel_rfl) rfl (fun c a a' w h => by obtain ⟨_, v, hv, _⟩ := h; cases hv) (by first | exact hS | exact hS.sub (.cons _ lrQ) | exact hS.sub (.cons _ (.cons _ lrQ)) | exact hS.sub (.cons _ (.cons _ (.cons _ lrQ))) | exact hS.sub (.cons _ (.cons _ (.cons _ (.cons _ lrQ))))) (fun w hS => (yIx0 (m := i0) rfl rfl Tryz.runUnderlying121 Tryz.sizeOf74 (by omega))) ?_
   refine awQ <| a1Q 28 (by kernel_rfl) rfl ?_
   refine srst (m := t.ticks.toNat) (cap := cap7) (sz := 2) (vs := spanC ⟨(tideS t i0).lo + (mem fo m).getD k 0 - wrongS t fo (t.frm + i0), (tideS t i0).hi + (mem fo m).getD k 0 + wrongS t fo (t.frm + i0)⟩) hS rfl rfl Tryz.sizeOf74 rfl rfl (by omega) rfl ?_; clear hS; intro w hS
   rw [splice_enc spanC_len _ _ _ (by rw [tubeS_len]; omega)] at hS
   refine nil ?_
   refine ⟨fun h => absurd h (by decide), ?_⟩
   refine awQ <| a_end (by kernel_rfl) <| cwQ <| region <| sv (yAdd h26 rfl ⟨by omega, by omega⟩) <| sv (yMove rfl) <| nil ?_
   exact ⟨_, _, rfl, ⟨k + 1, h0, h4, h7, h24, h25, rfl, (by rw [tube_in hkl (by omega) hi0]; exact hS), (by omega), rfl⟩, by omega⟩
 ·
  simp only [BS, ne_eq] at c27
  obtain rfl : k = (mem fo m).length := by omega
  rw [List.take_length] at hS
  refine exit <| cwQ <| seq <| region <| sv (yMove h7) <| sv (yAsg rfl) <| nil <| cwQ <| wp_ret ?_
  refine retQ (res1 rfl rfl) ?_
  exact hS.sub (.cons_cons _ (List.nil_sublist _))
set_option maxHeartbeats 1000000 in
theorem c_needS {t : Sgt} {now : Int} {ov : Value} {bk : Nat} {T : TypeId} {w0 : World} (hk : RKn w0 bk T t now ov) (hok : SgOk t) : CV Tryz.prog 119 #[.pointer (some ⟨bk, 0, none⟩)] w0 (.int .i64 (needS t now)) := by
 obtain ⟨cv, ag, cg, ak, ck, ae, ce, aw, cw, ax, cx, hkb, hT, hG, hC, hF, hW, hX⟩ := id hk
 have hcl := curS_len t now
 have hnc := hok.nc
 have hqm := hok.nums4.2.2.2
 refine enter Tryz.func119 rfl Tryz.ntmps119 rfl ?_
 have hS := St.start w0
 refine seq <| region <| sv (yAsg rfl) <| nil <| cwQ <| seq <| region <| sv (yAsg rfl) <| nil ?_
 refine cwQ <| seq <| seq <| region <| sv (yMove rfl) <| sv (yNil rfl) <| sv (fa123_3 rfl) <| sv (yLdB rfl Tryz.isAgg39 (hS.ext.get hkb) rfl) <| sv (yLen rfl Tryz.underlying39) ?_
 refine sv (yMove rfl) <| nil <| cwQ <| block <| loop (fun f w zz => ∃ (k : Nat), f 0 = .pointer (some ⟨bk, 0, none⟩) ∧ f 3 = .int .i64 ((((curS t now).take k).countP (fun i => decide (0 ≤ i)) : Nat) : Int) ∧ f 9 = .slice ax t.ctrs.length cx ∧ f 10 = .int .i64 (t.ctrs.length : Int) ∧ f 11 = .int .i64 (k : Int) ∧ StX [] w0 w [] ∧ (k ≤ t.ctrs.length) ∧ zz = t.ctrs.length - k) _ ⟨_, rfl, 0, rfl, rfl, rfl, rfl, rfl, hS, (Nat.zero_le _), rfl⟩ ?_
 clear hS
 rintro f w _ ⟨k, h0, h3, h9, h10, h11, hS, hk2, rfl⟩
 refine seq <| region <| sv (yLss h11 h10) <| nil <| cwQ <| seq ?_
 refine cond rfl (fun c12 => ?_) (fun c12 => ?_)
 ·
  simp only [BS, ne_eq] at c12
  have hx := curS_get t now (show k < t.ctrs.length by omega)
  obtain ⟨bq, oq, cq, haq, hlq, hcq, hRq, -⟩ := sl_at hX hx
  obtain ⟨rfl, -⟩ := hRq
  have hcnt : ((curS t now).take k).countP (fun i => decide (0 ≤ i)) ≤ k := by have := List.countP_le_length (p := fun i => decide (0 ≤ i)) (l := (curS t now).take k); rw [List.length_take] at this; omega
  refine skip <| cwQ <| seq <| block <| seq <| region <| sv (yIxa h9 haq h11 Tryz.runUnderlying39 Tryz.sizeOf3 (by omega) (by omega)) <| sv (yLd rfl Tryz.isAgg3 (hcq.ext hS.ext).one) <| sv (yAsg rfl) ?_
  refine nil <| cwQ <| seq <| region <| sv (yMove rfl) <| sv (yGeq rfl rfl) <| nil <| cwQ ?_
  refine cond rfl (fun c16 => ?_) (fun c16 => ?_)
  ·
   simp only [BS, ne_eq] at c16
   refine region <| sv (yMove h3) <| sv (yAdd rfl rfl ⟨by omega, by omega⟩) <| sv (yAsg rfl) <| nil <| cwQ <| region <| sv (yAdd h11 rfl ⟨by omega, by omega⟩) <| sv (yMove rfl) ?_
   refine nil ?_
   exact ⟨_, _, rfl, ⟨k + 1, h0, (rfl.trans (congrArg (Value.int .i64) (by rw [take_snoc hx, List.countP_append, List.countP_singleton, decide_eq_true (show 0 ≤ curOf t now k by omega), if_pos rfl]; omega))), h9, h10, rfl, hS, (by omega), rfl⟩, by omega⟩
  ·
   simp only [BS, ne_eq] at c16
   refine skip <| cwQ <| region <| sv (yAdd h11 rfl ⟨by omega, by omega⟩) <| sv (yMove rfl) <| nil ?_
   exact ⟨_, _, rfl, ⟨k + 1, h0, (h3.trans (congrArg (Value.int .i64) (by rw [take_snoc hx, List.countP_append, List.countP_singleton, decide_eq_false (show ¬ 0 ≤ curOf t now k by omega), if_neg (by decide)]; omega))), h9, h10, rfl, hS, (by omega), rfl⟩, by omega⟩
 ·
  simp only [BS, ne_eq] at c12
  obtain rfl : k = t.ctrs.length := by omega
  rw [← hcl, List.take_length] at h3
  refine exit <| cwQ <| seq <| region <| sv (yMove h3) <| sv (yMove h0) <| sv (yNil rfl) <| sv (fa123_0 rfl) <| sv (fa29_10 rfl) ?_
  refine sv (yLdB rfl Tryz.isAgg3 (hS.ext.get hkb) rfl) <| sv (yMin rfl rfl) <| sv (yAsg rfl) <| nil <| cwQ <| wp_ret ?_
  exact retV (res1 rfl rfl) hS.ext
end Go.Proofs.YtgidbailiababaaGreatDoor

/- part Sw7 -/
namespace Go.Proofs.YtgidbailiababaaGreatDoor
open Go Bx
set_option maxHeartbeats 4000000 in
theorem c_baseS {t : Sgt} {now : Int} {cv ov : Value} {ag ak ae aw ax : Option Addr} {cg ck ce cw cx bk mo : Nat} {os : List Span} {w0 w : World} {L9 : List Bx.Item} (h : RSgt w0 [.int .i64 t.table.mean, cv, .slice ag t.gauges.length cg, .int .i64 t.wrong, .int .i64 t.frm, .int .i64 t.ticks, .slice ak t.ctrs.length ck, .slice ae t.fcs.length ce, .int .i64 t.least, .int .i64 t.most, .int .i64 t.rate, .int .i64 t.quorum] t) (hok : SgOk t) (hnow : Bd now 0 200000) (hg : Glb w0) (hown : (os = [] ∧ mo = 0 ∧ ov = .slice none 0 0) ∨ (os = baseS t now ∧ mo = t.ticks.toNat)) (hS : StX [] w0 w (blk bk [.int .i64 t.table.mean, cv, .slice ag t.gauges.length cg, .int .i64 t.wrong, .int .i64 t.frm, .int .i64 t.ticks, .slice ak t.ctrs.length ck, .slice ae t.fcs.length ce, .int .i64 t.least, .int .i64 t.most, .int .i64 t.rate, .int .i64 t.quorum, .int .i64 now, .slice aw t.ticks.toNat cw, .slice ax t.ctrs.length cx, ov] 123 :: rowI (ov) 74 2 mo ((os).flatMap spanC) :: rowI (.slice aw t.ticks.toNat cw) 74 2 t.ticks.toNat ((tidesS t).flatMap spanC) :: rowI (.slice ax t.ctrs.length cx) 3 1 t.ctrs.length ((curS t now).flatMap Bx.encI) :: L9)) : CE Tryz.prog 81 #[.pointer (some ⟨bk, 0, none⟩)] w (fun u w' => ∃ ov', StX [] w0 w' (rowI (u) 74 2 t.ticks.toNat ((baseS t now).flatMap spanC) :: blk bk [.int .i64 t.table.mean, cv, .slice ag t.gauges.length cg, .int .i64 t.wrong, .int .i64 t.frm, .int .i64 t.ticks, .slice ak t.ctrs.length ck, .slice ae t.fcs.length ce, .int .i64 t.least, .int .i64 t.most, .int .i64 t.rate, .int .i64 t.quorum, .int .i64 now, .slice aw t.ticks.toNat cw, .slice ax t.ctrs.length cx, ov'] 123 :: rowI (ov') 74 2 t.ticks.toNat ((baseS t now).flatMap spanC) :: rowI (.slice aw t.ticks.toNat cw) 74 2 t.ticks.toNat ((tidesS t).flatMap spanC) :: rowI (.slice ax t.ctrs.length cx) 3 1 t.ctrs.length ((curS t now).flatMap Bx.encI) :: L9)) := by
 obtain ⟨hT, hG, hw64, hf64, hk64, hC, hF, hl64, hm64, hr64, hq64⟩ := RSgt.parts h
 have htk := hok.tk
 have hlev := hok.levs.2
 have hn4 := hok.nums4
 obtain ⟨ao, co, rfl⟩ := row_shape (hS.row ov)
 obtain ⟨gw, rfl, -⟩ := row_get (hS.row (.slice aw t.ticks.toNat cw)) (by omega)
 refine enter Tryz.func81 rfl Tryz.ntmps81 rfl ?_
 skip
 refine seq <| region <| sv (yAsg rfl) <| nil <| cwQ <| seq <| seq <| region <| sv (yMove rfl) ?_
 refine sv (yNil rfl) <| sv (fa123_4 rfl) <| sv (yLdB rfl Tryz.isAgg121 (hS.at _) rfl) <| sv (yEqNil rfl rfl Tryz.underlying121) <| nil <| cwQ ?_
 refine cond rfl (fun c14 => ?_) (fun c14 => ?_)
 ·
  obtain ⟨rfl, rfl, hnv⟩ : os = [] ∧ mo = 0 ∧ Value.slice ao mo co = .slice none 0 0 := by
   rcases hown with hh | ⟨rfl, rfl⟩
   ·
    exact hh
   ·
    obtain ⟨g2, c2, e2, -⟩ := row_some (hS.row (.slice ao t.ticks.toNat co)) (by omega)
    cases e2
    cases c14
  cases hnv
  replace hS := hS.sub (.cons_cons _ (.cons _ lrQ))
  refine seq <| region_mix (fun w => StX [] w0 w (blk bk [.int .i64 t.table.mean, cv, .slice ag t.gauges.length cg, .int .i64 t.wrong, .int .i64 t.frm, .int .i64 t.ticks, .slice ak t.ctrs.length ck, .slice ae t.fcs.length ce, .int .i64 t.least, .int .i64 t.most, .int .i64 t.rate, .int .i64 t.quorum, .int .i64 now, .slice (some ⟨gw, 0, none⟩) t.ticks.toNat cw, .slice ax t.ctrs.length cx, .slice none 0 0] 123 :: rowI (.slice (some ⟨gw, 0, none⟩) t.ticks.toNat cw) 74 2 t.ticks.toNat ((tidesS t).flatMap spanC) :: rowI (.slice ax t.ctrs.length cx) 3 1 t.ctrs.length ((curS t now).flatMap Bx.encI) :: L9)) 11 mixed hS ?_
  clear hS; intro w hS
  refine f_step 0 (by kernel_rfl) rfl (fun c a a' w h => by obtain ⟨_, v, hv, _⟩ := h; cases hv) (by first | exact hS | exact hS.sub (.cons _ lrQ) | exact hS.sub (.cons _ (.cons _ lrQ)) | exact hS.sub (.cons _ (.cons _ (.cons _ lrQ))) | exact hS.sub (.cons _ (.cons _ (.cons _ (.cons _ lrQ))))) (fun w hS => (yMove rfl)) ?_
  refine f_step 1 (by kernel_rfl) rfl (fun c a a' w h => by obtain ⟨_, v, hv, _⟩ := h; cases hv) (by first | exact hS | exact hS.sub (.cons _ lrQ) | exact hS.sub (.cons _ (.cons _ lrQ)) | exact hS.sub (.cons _ (.cons _ (.cons _ lrQ))) | exact hS.sub (.cons _ (.cons _ (.cons _ (.cons _ lrQ))))) (fun w hS => (yLdA rfl Tryz.isAgg74 Tryz.sizeOf74 (hg.ext hS.ext) rfl)) ?_
  refine f_step 3 (by kernel_rfl) rfl (fun c a a' w h => by obtain ⟨_, v, hv, _⟩ := h; cases hv) (by first | exact hS | exact hS.sub (.cons _ lrQ) | exact hS.sub (.cons _ (.cons _ lrQ)) | exact hS.sub (.cons _ (.cons _ (.cons _ lrQ))) | exact hS.sub (.cons _ (.cons _ (.cons _ (.cons _ lrQ))))) (fun w hS => (yMove rfl)) ?_
  refine f_step 4 (by kernel_rfl) rfl (fun c a a' w h => by obtain ⟨_, v, hv, _⟩ := h; cases hv) (by first | exact hS | exact hS.sub (.cons _ lrQ) | exact hS.sub (.cons _ (.cons _ lrQ)) | exact hS.sub (.cons _ (.cons _ (.cons _ lrQ))) | exact hS.sub (.cons _ (.cons _ (.cons _ (.cons _ lrQ))))) (fun w hS => (yNil rfl)) ?_
  refine f_step 5 (by kernel_rfl) rfl (fun c a a' w h => by obtain ⟨_, v, hv, _⟩ := h; cases hv) (by first | exact hS | exact hS.sub (.cons _ lrQ) | exact hS.sub (.cons _ (.cons _ lrQ)) | exact hS.sub (.cons _ (.cons _ (.cons _ lrQ))) | exact hS.sub (.cons _ (.cons _ (.cons _ (.cons _ lrQ))))) (fun w hS => (fa123_0 rfl)) ?_
  refine f_step 6 (by kernel_rfl) rfl (fun c a a' w h => by obtain ⟨_, v, hv, _⟩ := h; cases hv) (by first | exact hS | exact hS.sub (.cons _ lrQ) | exact hS.sub (.cons _ (.cons _ lrQ)) | exact hS.sub (.cons _ (.cons _ (.cons _ lrQ))) | exact hS.sub (.cons _ (.cons _ (.cons _ (.cons _ lrQ))))) (fun w hS => (fa29_4 rfl)) ?_
  refine f_step 7 (by kernel_rfl) rfl (fun c a a' w h => by obtain ⟨_, v, hv, _⟩ := h; cases hv) (by first | exact hS | exact hS.sub (.cons _ lrQ) | exact hS.sub (.cons _ (.cons _ lrQ)) | exact hS.sub (.cons _ (.cons _ (.cons _ lrQ))) | exact hS.sub (.cons _ (.cons _ (.cons _ (.cons _ lrQ))))) (fun w hS => (Y.to (yLdB rfl Tryz.isAgg3 (hS.at bk) rfl) (congrArg (Value.int .i64) (show t.ticks = ((t.ticks.toNat : Nat) : Int) by omega)))) ?_
  refine awQ <| a1Q 2 (by kernel_rfl) rfl ?_
  refine sbslice hS Tryz.underlying121 Tryz.sizeOf74 rfl Tryz.zeroValue74 rfl (.cons rfl rfl .nil) rfl ?_; clear hS; intro b17 w hS
  refine nil ?_
  refine ⟨fun _ => (by first | exact hS | exact hS.sub (.cons _ lrQ) | exact hS.sub (.cons _ (.cons _ lrQ)) | exact hS.sub (.cons _ (.cons _ (.cons _ lrQ))) | exact hS.sub (.cons _ (.cons _ (.cons _ (.cons _ lrQ))))), ?_⟩
  refine awQ <| awQ <| a1Q 8 (by kernel_rfl) rfl ?_
  refine scall Tryz.call140 (.cons rfl (.cons rfl .nil)) (c_RepeatS (k := t.ticks.toNat) (s := ⟨-20000, 20000⟩) (by omega) (hS.at b17)) ?_
  rintro rv w hM2; replace hS := hS.call1 hM2; clear hM2
  obtain ⟨go, co, rfl, hoc, hom, -⟩ := row_some (hS.row rv) (by omega)
  refine nil ?_
  refine ⟨fun _ => (by first | exact hS | exact hS.sub (.cons _ lrQ) | exact hS.sub (.cons _ (.cons _ lrQ)) | exact hS.sub (.cons _ (.cons _ (.cons _ lrQ))) | exact hS.sub (.cons _ (.cons _ (.cons _ (.cons _ lrQ))))), ?_⟩
  refine awQ <| awQ <| a1Q 9 (by kernel_rfl) rfl <| sv (yNil rfl) <| nil ?_
  refine ⟨fun _ => (by first | exact hS | exact hS.sub (.cons _ lrQ) | exact hS.sub (.cons _ (.cons _ lrQ)) | exact hS.sub (.cons _ (.cons _ (.cons _ lrQ))) | exact hS.sub (.cons _ (.cons _ (.cons _ (.cons _ lrQ))))), ?_⟩
  refine awQ <| awQ <| a1Q 10 (by kernel_rfl) rfl <| sv (fa123_4 rfl) <| nil ?_
  refine ⟨fun _ => (by first | exact hS | exact hS.sub (.cons _ lrQ) | exact hS.sub (.cons _ (.cons _ lrQ)) | exact hS.sub (.cons _ (.cons _ (.cons _ lrQ))) | exact hS.sub (.cons _ (.cons _ (.cons _ (.cons _ lrQ))))), ?_⟩
  refine awQ <| awQ <| a1Q 11 (by kernel_rfl) rfl ?_
  refine sst hS rfl rfl Tryz.sizeOf121 rfl rfl rfl rfl ?_; clear hS; intro w hS
  refine nil ?_
  refine ⟨fun h => absurd h (by decide), ?_⟩
  refine awQ <| a_end (by kernel_rfl) <| cwQ <| seq <| region ?_
  replace hS : StX [] w0 w (rowI (.slice (some ⟨go, 0, none⟩) t.ticks.toNat co) 74 2 t.ticks.toNat ((List.replicate t.ticks.toNat ⟨-20000, 20000⟩).flatMap spanC) :: blk bk [.int .i64 t.table.mean, cv, .slice ag t.gauges.length cg, .int .i64 t.wrong, .int .i64 t.frm, .int .i64 t.ticks, .slice ak t.ctrs.length ck, .slice ae t.fcs.length ce, .int .i64 t.least, .int .i64 t.most, .int .i64 t.rate, .int .i64 t.quorum, .int .i64 now, .slice (some ⟨gw, 0, none⟩) t.ticks.toNat cw, .slice ax t.ctrs.length cx, .slice (some ⟨go, 0, none⟩) t.ticks.toNat co] 123 :: rowI (.slice (some ⟨gw, 0, none⟩) t.ticks.toNat cw) 74 2 t.ticks.toNat ((tidesS t).flatMap spanC) :: rowI (.slice ax t.ctrs.length cx) 3 1 t.ctrs.length ((curS t now).flatMap Bx.encI) :: L9) := hS.sub (.cons_cons _ (.cons _ lrQ))
  refine sv (yMove rfl) <| sv (yNil rfl) <| sv (fa123_4 rfl) <| sv (yLdB rfl Tryz.isAgg121 (hS.at _) rfl) <| sv (yFnB (.cons rfl .nil)) <| sv (yAsg rfl) <| nil <| cwQ <| seq ?_
  refine region <| sv (yMove rfl) <| sv (yNil rfl) <| sv (fa123_0 rfl) <| sv (fa29_4 rfl) <| sv (Y.to (yLdB rfl Tryz.isAgg3 (hS.at bk) rfl) (congrArg (Value.int .i64) (show t.ticks = ((t.ticks.toNat : Nat) : Int) by omega))) ?_
  refine smake (bytes := 16) (zs := [.int .i64 0, .int .i64 0]) (m := t.ticks.toNat) hS rfl rfl Tryz.underlying121 ti74 rfl rfl rfl rfl rfl (by omega) (by omega) ?_; clear hS; intro b36 w hS
  refine sv (yAsg rfl) <| nil <| cwQ <| seq <| seq <| region ?_
  rw [rep_flat, ← surgeK_0] at hS
  replace hS := hS.toRow 2 t.ticks.toNat (by rw [flat_len spanC_len, surgeK_len]) (by omega)
  refine sv (yMove rfl) <| sv (yNil rfl) <| sv (fa123_2 rfl) <| sv (yLdB rfl Tryz.isAgg121 (hS.at _) rfl) <| sv (yLen rfl Tryz.underlying121) <| sv (yMove rfl) <| nil <| cwQ <| block ?_
  refine loop (fun f w zz => ∃ (k : Nat), f 0 = .pointer (some ⟨bk, 0, none⟩) ∧ f 3 = .func (.func 82) #[.slice (some ⟨go, 0, none⟩) t.ticks.toNat co] #[] ∧ f 4 = .slice (some ⟨b36, 0, none⟩) t.ticks.toNat t.ticks.toNat ∧ f 40 = .slice (some ⟨gw, 0, none⟩) t.ticks.toNat cw ∧ f 41 = .int .i64 (t.ticks.toNat : Int) ∧ f 42 = .int .i64 (k : Int) ∧ StX [] w0 w ((rowI (.slice (some ⟨b36, 0, none⟩) t.ticks.toNat t.ticks.toNat) 74 2 t.ticks.toNat ((surgeK t k).flatMap spanC) :: rowI (.slice (some ⟨go, 0, none⟩) t.ticks.toNat co) 74 2 t.ticks.toNat ((List.replicate t.ticks.toNat ⟨-20000, 20000⟩).flatMap spanC) :: blk bk [.int .i64 t.table.mean, cv, .slice ag t.gauges.length cg, .int .i64 t.wrong, .int .i64 t.frm, .int .i64 t.ticks, .slice ak t.ctrs.length ck, .slice ae t.fcs.length ce, .int .i64 t.least, .int .i64 t.most, .int .i64 t.rate, .int .i64 t.quorum, .int .i64 now, .slice (some ⟨gw, 0, none⟩) t.ticks.toNat cw, .slice ax t.ctrs.length cx, .slice (some ⟨go, 0, none⟩) t.ticks.toNat co] 123 :: rowI (.slice (some ⟨gw, 0, none⟩) t.ticks.toNat cw) 74 2 t.ticks.toNat ((tidesS t).flatMap spanC) :: rowI (.slice ax t.ctrs.length cx) 3 1 t.ctrs.length ((curS t now).flatMap Bx.encI) :: L9)) ∧ (k ≤ t.ticks.toNat) ∧ zz = t.ticks.toNat - k) _ ⟨_, rfl, 0, rfl, rfl, rfl, rfl, rfl, rfl, hS, (Nat.zero_le _), rfl⟩ ?_
  clear hS
  rintro f w _ ⟨k, h0, h3, h4, h40, h41, h42, hS, hk, rfl⟩
  refine seq <| region <| sv (yLss h42 h41) <| nil <| cwQ <| seq ?_
  refine cond rfl (fun c43 => ?_) (fun c43 => ?_)
  ·
   simp only [BS, ne_eq] at c43
   have hkl : k < t.ticks.toNat := by omega
   have htd := tide_sbd hok k
   unfold SBd at htd
   refine skip <| cwQ <| seq <| block <| seq <| region <| sv (yMove h42) <| sv (yIx0 (m := k) h40 h42 Tryz.runUnderlying121 Tryz.sizeOf74 (by omega)) <| sv (yLdA rfl Tryz.isAgg74 Tryz.sizeOf74 (flat_cells0 (enc := spanC) spanC_len (row_at (hS.row (.slice (some ⟨gw, 0, none⟩) t.ticks.toNat cw)) rfl (by omega)) (tidesS_get hkl)) rfl) ?_
   refine salloc hS Tryz.zeroValue74 rfl ?_; clear hS; intro b6 w hS
   refine sv (yAsg rfl) ?_
   refine sst hS rfl rfl Tryz.sizeOf74 rfl rfl rfl rfl ?_; clear hS; intro w hS
   refine nil <| cwQ <| region_mix (fun w => StX [] w0 w (blk b6 (spanC (tideS t k)) 74 :: rowI (.slice (some ⟨b36, 0, none⟩) t.ticks.toNat t.ticks.toNat) 74 2 t.ticks.toNat ((surgeK t k).flatMap spanC) :: rowI (.slice (some ⟨go, 0, none⟩) t.ticks.toNat co) 74 2 t.ticks.toNat ((List.replicate t.ticks.toNat ⟨-20000, 20000⟩).flatMap spanC) :: blk bk [.int .i64 t.table.mean, cv, .slice ag t.gauges.length cg, .int .i64 t.wrong, .int .i64 t.frm, .int .i64 t.ticks, .slice ak t.ctrs.length ck, .slice ae t.fcs.length ce, .int .i64 t.least, .int .i64 t.most, .int .i64 t.rate, .int .i64 t.quorum, .int .i64 now, .slice (some ⟨gw, 0, none⟩) t.ticks.toNat cw, .slice ax t.ctrs.length cx, .slice (some ⟨go, 0, none⟩) t.ticks.toNat co] 123 :: rowI (.slice (some ⟨gw, 0, none⟩) t.ticks.toNat cw) 74 2 t.ticks.toNat ((tidesS t).flatMap spanC) :: rowI (.slice ax t.ctrs.length cx) 3 1 t.ctrs.length ((curS t now).flatMap Bx.encI) :: L9)) 20 mixed hS ?_
   clear hS; intro w hS
   refine f_step 0 (by kernel_rfl) rfl (fun c a a' w h => by obtain ⟨_, v, hv, _⟩ := h; cases hv) (by first | exact hS | exact hS.sub (.cons _ lrQ) | exact hS.sub (.cons _ (.cons _ lrQ)) | exact hS.sub (.cons _ (.cons _ (.cons _ lrQ))) | exact hS.sub (.cons _ (.cons _ (.cons _ (.cons _ lrQ))))) (fun w hS => (yMove h4)) ?_
   refine f_step 1 (by kernel_rfl) rfl (fun c a a' w h => by obtain ⟨_, v, hv, _⟩ := h; cases hv) (by first | exact hS | exact hS.sub (.cons _ lrQ) | exact hS.sub (.cons _ (.cons _ lrQ)) | exact hS.sub (.cons _ (.cons _ (.cons _ lrQ))) | exact hS.sub (.cons _ (.cons _ (.cons _ (.cons _ lrQ))))) (fun w hS => (yMove rfl)) ?_
   refine f_step 2 (by kernel_rfl) rfl (fun c a a' w h => by obtain ⟨_, v, hv, _⟩ := h; cases hv) (by first | exact hS | exact hS.sub (.cons _ lrQ) | exact hS.sub (.cons _ (.cons _ lrQ)) | exact hS.sub (.cons _ (.cons _ (.cons _ lrQ))) | exact hS.sub (.cons _ (.cons _ (.cons _ (.cons _ lrQ))))) (fun w hS => (fa74_0 rfl)) ?_
   refine f_step 3 (by kernel_rfl) rfl (fun c a a' w h => by obtain ⟨_, v, hv, _⟩ := h; cases hv) (by first | exact hS | exact hS.sub (.cons _ lrQ) | exact hS.sub (.cons _ (.cons _ lrQ)) | exact hS.sub (.cons _ (.cons _ (.cons _ lrQ))) | exact hS.sub (.cons _ (.cons _ (.cons _ (.cons _ lrQ))))) (fun w hS => (yLdB rfl Tryz.isAgg3 (hS.at _) rfl)) ?_
   refine f_step 4 (by kernel_rfl) rfl (fun c a a' w h => by obtain ⟨_, v, hv, _⟩ := h; cases hv) (by first | exact hS | exact hS.sub (.cons _ lrQ) | exact hS.sub (.cons _ (.cons _ lrQ)) | exact hS.sub (.cons _ (.cons _ (.cons _ lrQ))) | exact hS.sub (.cons _ (.cons _ (.cons _ (.cons _ lrQ))))) (fun w hS => (yMove h0)) ?_
   refine f_step 5 (by kernel_rfl) rfl (fun c a a' w h => by obtain ⟨_, v, hv, _⟩ := h; cases hv) (by first | exact hS | exact hS.sub (.cons _ lrQ) | exact hS.sub (.cons _ (.cons _ lrQ)) | exact hS.sub (.cons _ (.cons _ (.cons _ lrQ))) | exact hS.sub (.cons _ (.cons _ (.cons _ (.cons _ lrQ))))) (fun w hS => (yNil rfl)) ?_
   refine f_step 6 (by kernel_rfl) rfl (fun c a a' w h => by obtain ⟨_, v, hv, _⟩ := h; cases hv) (by first | exact hS | exact hS.sub (.cons _ lrQ) | exact hS.sub (.cons _ (.cons _ lrQ)) | exact hS.sub (.cons _ (.cons _ (.cons _ lrQ))) | exact hS.sub (.cons _ (.cons _ (.cons _ (.cons _ lrQ))))) (fun w hS => (fa123_0 rfl)) ?_
   refine f_step 7 (by kernel_rfl) rfl (fun c a a' w h => by obtain ⟨_, v, hv, _⟩ := h; cases hv) (by first | exact hS | exact hS.sub (.cons _ lrQ) | exact hS.sub (.cons _ (.cons _ lrQ)) | exact hS.sub (.cons _ (.cons _ (.cons _ lrQ))) | exact hS.sub (.cons _ (.cons _ (.cons _ (.cons _ lrQ))))) (fun w hS => (fa29_7 rfl)) ?_
   refine f_step 8 (by kernel_rfl) rfl (fun c a a' w h => by obtain ⟨_, v, hv, _⟩ := h; cases hv) (by first | exact hS | exact hS.sub (.cons _ lrQ) | exact hS.sub (.cons _ (.cons _ lrQ)) | exact hS.sub (.cons _ (.cons _ (.cons _ lrQ))) | exact hS.sub (.cons _ (.cons _ (.cons _ (.cons _ lrQ))))) (fun w hS => (yLdB rfl Tryz.isAgg3 (hS.at _) rfl)) ?_
   refine f_step 9 (by kernel_rfl) rfl (fun c a a' w h => by obtain ⟨_, v, hv, _⟩ := h; cases hv) (by first | exact hS | exact hS.sub (.cons _ lrQ) | exact hS.sub (.cons _ (.cons _ lrQ)) | exact hS.sub (.cons _ (.cons _ (.cons _ lrQ))) | exact hS.sub (.cons _ (.cons _ (.cons _ (.cons _ lrQ))))) (fun w hS => (yAdd rfl rfl ⟨by omega, by omega⟩)) ?_
   refine f_step 10 (by kernel_rfl) rfl (fun c a a' w h => by obtain ⟨_, v, hv, _⟩ := h; cases hv) (by first | exact hS | exact hS.sub (.cons _ lrQ) | exact hS.sub (.cons _ (.cons _ lrQ)) | exact hS.sub (.cons _ (.cons _ (.cons _ lrQ))) | exact hS.sub (.cons _ (.cons _ (.cons _ (.cons _ lrQ))))) (fun w hS => (fa74_1 rfl)) ?_
   refine f_step 11 (by kernel_rfl) rfl (fun c a a' w h => by obtain ⟨_, v, hv, _⟩ := h; cases hv) (by first | exact hS | exact hS.sub (.cons _ lrQ) | exact hS.sub (.cons _ (.cons _ lrQ)) | exact hS.sub (.cons _ (.cons _ (.cons _ lrQ))) | exact hS.sub (.cons _ (.cons _ (.cons _ (.cons _ lrQ))))) (fun w hS => (yLdB rfl Tryz.isAgg3 (hS.at _) rfl)) ?_
   refine f_step 12 (by kernel_rfl) rfl (fun c a a' w h => by obtain ⟨_, v, hv, _⟩ := h; cases hv) (by first | exact hS | exact hS.sub (.cons _ lrQ) | exact hS.sub (.cons _ (.cons _ lrQ)) | exact hS.sub (.cons _ (.cons _ (.cons _ lrQ))) | exact hS.sub (.cons _ (.cons _ (.cons _ (.cons _ lrQ))))) (fun w hS => (yMove h0)) ?_
   refine f_step 13 (by kernel_rfl) rfl (fun c a a' w h => by obtain ⟨_, v, hv, _⟩ := h; cases hv) (by first | exact hS | exact hS.sub (.cons _ lrQ) | exact hS.sub (.cons _ (.cons _ lrQ)) | exact hS.sub (.cons _ (.cons _ (.cons _ lrQ))) | exact hS.sub (.cons _ (.cons _ (.cons _ (.cons _ lrQ))))) (fun w hS => (yNil rfl)) ?_
   refine f_step 14 (by kernel_rfl) rfl (fun c a a' w h => by obtain ⟨_, v, hv, _⟩ := h; cases hv) (by first | exact hS | exact hS.sub (.cons _ lrQ) | exact hS.sub (.cons _ (.cons _ lrQ)) | exact hS.sub (.cons _ (.cons _ (.cons _ lrQ))) | exact hS.sub (.cons _ (.cons _ (.cons _ (.cons _ lrQ))))) (fun w hS => (fa123_0 rfl)) ?_
   refine f_step 15 (by kernel_rfl) rfl (fun c a a' w h => by obtain ⟨_, v, hv, _⟩ := h; cases hv) (by first | exact hS | exact hS.sub (.cons _ lrQ) | exact hS.sub (.cons _ (.cons _ lrQ)) | exact hS.sub (.cons _ (.cons _ (.cons _ lrQ))) | exact hS.sub (.cons _ (.cons _ (.cons _ (.cons _ lrQ))))) (fun w hS => (fa29_8 rfl)) ?_
   refine f_step 16 (by kernel_rfl) rfl (fun c a a' w h => by obtain ⟨_, v, hv, _⟩ := h; cases hv) (by first | exact hS | exact hS.sub (.cons _ lrQ) | exact hS.sub (.cons _ (.cons _ lrQ)) | exact hS.sub (.cons _ (.cons _ (.cons _ lrQ))) | exact hS.sub (.cons _ (.cons _ (.cons _ (.cons _ lrQ))))) (fun w hS => (yLdB rfl Tryz.isAgg3 (hS.at _) rfl)) ?_
   refine f_step 17 (by kernel_rfl) rfl (fun c a a' w h => by obtain ⟨_, v, hv, _⟩ := h; cases hv) (by first | exact hS | exact hS.sub (.cons _ lrQ) | exact hS.sub (.cons _ (.cons _ lrQ)) | exact hS.sub (.cons _ (.cons _ (.cons _ lrQ))) | exact hS.sub (.cons _ (.cons _ (.cons _ (.cons _ lrQ))))) (fun w hS => (yAdd rfl rfl ⟨by omega, by omega⟩)) ?_
   refine f_step 18 (by kernel_rfl) rfl (fun c a a' w h => by obtain ⟨_, v, hv, _⟩ := h; cases hv) (by first | exact hS | exact hS.sub (.cons _ lrQ) | exact hS.sub (.cons _ (.cons _ lrQ)) | exact hS.sub (.cons _ (.cons _ (.cons _ lrQ))) | exact hS.sub (.cons _ (.cons _ (.cons _ (.cons _ lrQ))))) (fun w hS => (yBuild Tryz.zeroValue74 rfl pl74 (.cons rfl rfl (.cons rfl rfl .nil)) rfl)) ?_
   refine f_step 19 (by kernel_rfl) rfl (fun c a a' w h => by obtain ⟨_, v, hv, _⟩ := h; cases hv) (by first | exact hS | exact hS.sub (.cons _ lrQ) | exact hS.sub (.cons _ (.cons _ lrQ)) | exact hS.sub (.cons _ (.cons _ (.cons _ lrQ))) | exact hS.sub (.cons _ (.cons _ (.cons _ (.cons _ lrQ))))) (fun w hS => (yIx0 (m := k) rfl rfl Tryz.runUnderlying121 Tryz.sizeOf74 (by omega))) ?_
   refine awQ <| a1Q 20 (by kernel_rfl) rfl ?_
   refine srst (m := t.ticks.toNat) (cap := t.ticks.toNat) (sz := 2) (vs := spanC ⟨(tideS t k).lo + t.least, (tideS t k).hi + t.most⟩) hS rfl rfl Tryz.sizeOf74 rfl rfl (by omega) rfl ?_; clear hS; intro w hS
   rw [splice_enc spanC_len _ _ _ (by rw [surgeK_len]; omega)] at hS
   refine nil ?_
   refine ⟨fun h => absurd h (by decide), ?_⟩
   refine awQ <| a_end (by kernel_rfl) <| cwQ <| region <| sv (yAdd h42 rfl ⟨by omega, by omega⟩) <| sv (yMove rfl) <| nil ?_
   exact ⟨_, _, rfl, ⟨k + 1, h0, h3, h4, h40, h41, rfl, (by rw [surgeK_succ hkl]; exact hS.sub (.cons _ lrQ)), (by omega), rfl⟩, by omega⟩
  ·
   simp only [BS, ne_eq] at c43
   obtain rfl : k = t.ticks.toNat := by omega
   refine exit <| cwQ <| seq <| region <| sv (yMove h3) <| sv (yMove h4) ?_
   refine scallfB rfl Tryz.call82 (.cons rfl .nil) (c_meetS (o := 0) (ss := List.replicate t.ticks.toNat ⟨-20000, 20000⟩) (os := surgeK t t.ticks.toNat) (hS.perm (List.Perm.swap _ _ _)) (fun q w2 h2 => sl_spans (h2.row (.slice (some ⟨b36, 0, none⟩) t.ticks.toNat t.ticks.toNat)) (surgeK_len ..) (lbd_i64 (surgeK_sbd hok _))) (by rw [surgeK_len]; omega) (by rw [List.length_replicate]) (by omega) (by omega)) ?_
   rintro _ w ⟨-, hM⟩; clear hS; have hS := hM; clear hM
   rw [meet_base (now := now)] at hS
   replace hS := hS.sub (.cons_cons _ (.cons _ lrQ))
   refine nil <| cwQ <| seq <| region <| sv (yMove h0) <| sv (yNil rfl) <| sv (fa123_4 rfl) <| sv (yLdB rfl Tryz.isAgg121 (hS.at _) rfl) <| sv (yLen rfl Tryz.underlying121) ?_
   refine sv (yMove rfl) <| nil <| cwQ <| block <| loop (fun f w zz => ∃ (k : Nat), f 0 = .pointer (some ⟨bk, 0, none⟩) ∧ f 74 = .slice (some ⟨go, 0, none⟩) t.ticks.toNat co ∧ f 75 = .int .i64 (t.ticks.toNat : Int) ∧ f 76 = .int .i64 (k : Int) ∧ StX [] w0 w ((rowI (.slice (some ⟨go, 0, none⟩) t.ticks.toNat co) 74 2 t.ticks.toNat ((baseK t now k).flatMap spanC) :: blk bk [.int .i64 t.table.mean, cv, .slice ag t.gauges.length cg, .int .i64 t.wrong, .int .i64 t.frm, .int .i64 t.ticks, .slice ak t.ctrs.length ck, .slice ae t.fcs.length ce, .int .i64 t.least, .int .i64 t.most, .int .i64 t.rate, .int .i64 t.quorum, .int .i64 now, .slice (some ⟨gw, 0, none⟩) t.ticks.toNat cw, .slice ax t.ctrs.length cx, .slice (some ⟨go, 0, none⟩) t.ticks.toNat co] 123 :: rowI (.slice (some ⟨gw, 0, none⟩) t.ticks.toNat cw) 74 2 t.ticks.toNat ((tidesS t).flatMap spanC) :: rowI (.slice ax t.ctrs.length cx) 3 1 t.ctrs.length ((curS t now).flatMap Bx.encI) :: L9)) ∧ (k ≤ t.ticks.toNat) ∧ zz = t.ticks.toNat - k) _ ⟨_, rfl, 0, h0, rfl, rfl, rfl, hS, (Nat.zero_le _), rfl⟩ ?_
   clear hS
   rintro f w _ ⟨k, h0, h74, h75, h76, hS, hk, rfl⟩
   refine seq <| region <| sv (yLss h76 h75) <| nil <| cwQ <| seq ?_
   refine cond rfl (fun c77 => ?_) (fun c77 => ?_)
   ·
    simp only [BS, ne_eq] at c77
    have hkl : k < t.ticks.toNat := by omega
    have htb := tick_at hok hkl
    refine skip <| cwQ <| seq <| block <| seq <| region <| sv (yMove h76) <| sv (yAsg rfl) <| nil ?_
    refine cwQ <| seq <| seq <| region <| sv (yMove h0) <| sv (yNil rfl) <| sv (fa123_0 rfl) <| sv (fa29_1 rfl) <| sv (yLdB rfl Tryz.isAgg25 (hS.at _) rfl) ?_
    refine sv (yLen rfl Tryz.underlying25) <| sv (yEql rfl rfl) <| nil <| cwQ ?_
    refine cond rfl (fun c85 => ?_) (fun c85 => ?_)
    ·
     simp only [BS, ne_eq] at c85
     have hg0 : t.gauges = [] := List.eq_nil_of_length_eq_zero (by omega)
     rw [baseK_none hg0] at hS
     refine exit <| cwQ <| seq <| region <| sv (yMove h0) <| sv (yNil rfl) <| sv (fa123_4 rfl) <| sv (yLdB rfl Tryz.isAgg121 (hS.at _) rfl) ?_
     refine scall Tryz.call120 (.cons rfl .nil) (c_CloneS (sl_spans (hS.row _) (baseS_len ..) (lbd_i64 (baseS_lbd hok now))) (baseS_len ..) (by omega)) ?_
     rintro u w hM2; replace hS := hS.call1 hM2; clear hM2
     refine sv (yAsg rfl) <| nil <| cwQ <| wp_ret <| retQ (res1 rfl rfl) ?_
     exact ⟨_, hS.perm ((List.Perm.swap _ _ _).cons _)⟩
    ·
     simp only [BS, ne_eq] at c85
     have hg1 : t.gauges ≠ [] := fun e => by rw [e] at c85; exact c85 rfl
     refine skip <| cwQ <| seq <| region_mix (fun w => StX [] w0 w (rowI (.slice (some ⟨go, 0, none⟩) t.ticks.toNat co) 74 2 t.ticks.toNat ((baseK t now k).flatMap spanC) :: blk bk [.int .i64 t.table.mean, cv, .slice ag t.gauges.length cg, .int .i64 t.wrong, .int .i64 t.frm, .int .i64 t.ticks, .slice ak t.ctrs.length ck, .slice ae t.fcs.length ce, .int .i64 t.least, .int .i64 t.most, .int .i64 t.rate, .int .i64 t.quorum, .int .i64 now, .slice (some ⟨gw, 0, none⟩) t.ticks.toNat cw, .slice ax t.ctrs.length cx, .slice (some ⟨go, 0, none⟩) t.ticks.toNat co] 123 :: rowI (.slice (some ⟨gw, 0, none⟩) t.ticks.toNat cw) 74 2 t.ticks.toNat ((tidesS t).flatMap spanC) :: rowI (.slice ax t.ctrs.length cx) 3 1 t.ctrs.length ((curS t now).flatMap Bx.encI) :: L9)) 27 mixed hS ?_
     clear hS; intro w hS
     refine f_step 0 (by kernel_rfl) rfl (fun c a a' w h => by obtain ⟨_, v, hv, _⟩ := h; cases hv) (by first | exact hS | exact hS.sub (.cons _ lrQ) | exact hS.sub (.cons _ (.cons _ lrQ)) | exact hS.sub (.cons _ (.cons _ (.cons _ lrQ))) | exact hS.sub (.cons _ (.cons _ (.cons _ (.cons _ lrQ))))) (fun w hS => (yMove h0)) ?_
     refine f_step 1 (by kernel_rfl) rfl (fun c a a' w h => by obtain ⟨_, v, hv, _⟩ := h; cases hv) (by first | exact hS | exact hS.sub (.cons _ lrQ) | exact hS.sub (.cons _ (.cons _ lrQ)) | exact hS.sub (.cons _ (.cons _ (.cons _ lrQ))) | exact hS.sub (.cons _ (.cons _ (.cons _ (.cons _ lrQ))))) (fun w hS => (yNil rfl)) ?_
     refine f_step 2 (by kernel_rfl) rfl (fun c a a' w h => by obtain ⟨_, v, hv, _⟩ := h; cases hv) (by first | exact hS | exact hS.sub (.cons _ lrQ) | exact hS.sub (.cons _ (.cons _ lrQ)) | exact hS.sub (.cons _ (.cons _ (.cons _ lrQ))) | exact hS.sub (.cons _ (.cons _ (.cons _ (.cons _ lrQ))))) (fun w hS => (fa123_0 rfl)) ?_
     refine f_step 3 (by kernel_rfl) rfl (fun c a a' w h => by obtain ⟨_, v, hv, _⟩ := h; cases hv) (by first | exact hS | exact hS.sub (.cons _ lrQ) | exact hS.sub (.cons _ (.cons _ lrQ)) | exact hS.sub (.cons _ (.cons _ (.cons _ lrQ))) | exact hS.sub (.cons _ (.cons _ (.cons _ (.cons _ lrQ))))) (fun w hS => (fa29_1 rfl)) ?_
     refine f_step 4 (by kernel_rfl) rfl (fun c a a' w h => by obtain ⟨_, v, hv, _⟩ := h; cases hv) (by first | exact hS | exact hS.sub (.cons _ lrQ) | exact hS.sub (.cons _ (.cons _ lrQ)) | exact hS.sub (.cons _ (.cons _ (.cons _ lrQ))) | exact hS.sub (.cons _ (.cons _ (.cons _ (.cons _ lrQ))))) (fun w hS => (yLdB rfl Tryz.isAgg25 (hS.at _) rfl)) ?_
     refine f_step 5 (by kernel_rfl) rfl (fun c a a' w h => by obtain ⟨_, v, hv, _⟩ := h; cases hv) (by first | exact hS | exact hS.sub (.cons _ lrQ) | exact hS.sub (.cons _ (.cons _ lrQ)) | exact hS.sub (.cons _ (.cons _ (.cons _ lrQ))) | exact hS.sub (.cons _ (.cons _ (.cons _ (.cons _ lrQ))))) (fun w hS => (yMove h0)) ?_
     refine f_step 6 (by kernel_rfl) rfl (fun c a a' w h => by obtain ⟨_, v, hv, _⟩ := h; cases hv) (by first | exact hS | exact hS.sub (.cons _ lrQ) | exact hS.sub (.cons _ (.cons _ lrQ)) | exact hS.sub (.cons _ (.cons _ (.cons _ lrQ))) | exact hS.sub (.cons _ (.cons _ (.cons _ (.cons _ lrQ))))) (fun w hS => (yNil rfl)) ?_
     refine f_step 7 (by kernel_rfl) rfl (fun c a a' w h => by obtain ⟨_, v, hv, _⟩ := h; cases hv) (by first | exact hS | exact hS.sub (.cons _ lrQ) | exact hS.sub (.cons _ (.cons _ lrQ)) | exact hS.sub (.cons _ (.cons _ (.cons _ lrQ))) | exact hS.sub (.cons _ (.cons _ (.cons _ (.cons _ lrQ))))) (fun w hS => (fa123_0 rfl)) ?_
     refine f_step 8 (by kernel_rfl) rfl (fun c a a' w h => by obtain ⟨_, v, hv, _⟩ := h; cases hv) (by first | exact hS | exact hS.sub (.cons _ lrQ) | exact hS.sub (.cons _ (.cons _ lrQ)) | exact hS.sub (.cons _ (.cons _ (.cons _ lrQ))) | exact hS.sub (.cons _ (.cons _ (.cons _ (.cons _ lrQ))))) (fun w hS => (fa29_2 rfl)) ?_
     refine f_step 9 (by kernel_rfl) rfl (fun c a a' w h => by obtain ⟨_, v, hv, _⟩ := h; cases hv) (by first | exact hS | exact hS.sub (.cons _ lrQ) | exact hS.sub (.cons _ (.cons _ lrQ)) | exact hS.sub (.cons _ (.cons _ (.cons _ lrQ))) | exact hS.sub (.cons _ (.cons _ (.cons _ (.cons _ lrQ))))) (fun w hS => (yLdB rfl Tryz.isAgg3 (hS.at _) rfl)) ?_
     refine f_step 10 (by kernel_rfl) rfl (fun c a a' w h => by obtain ⟨_, v, hv, _⟩ := h; cases hv) (by first | exact hS | exact hS.sub (.cons _ lrQ) | exact hS.sub (.cons _ (.cons _ lrQ)) | exact hS.sub (.cons _ (.cons _ (.cons _ lrQ))) | exact hS.sub (.cons _ (.cons _ (.cons _ (.cons _ lrQ))))) (fun w hS => (yMove h0)) ?_
     refine f_step 11 (by kernel_rfl) rfl (fun c a a' w h => by obtain ⟨_, v, hv, _⟩ := h; cases hv) (by first | exact hS | exact hS.sub (.cons _ lrQ) | exact hS.sub (.cons _ (.cons _ lrQ)) | exact hS.sub (.cons _ (.cons _ (.cons _ lrQ))) | exact hS.sub (.cons _ (.cons _ (.cons _ (.cons _ lrQ))))) (fun w hS => (yNil rfl)) ?_
     refine f_step 12 (by kernel_rfl) rfl (fun c a a' w h => by obtain ⟨_, v, hv, _⟩ := h; cases hv) (by first | exact hS | exact hS.sub (.cons _ lrQ) | exact hS.sub (.cons _ (.cons _ lrQ)) | exact hS.sub (.cons _ (.cons _ (.cons _ lrQ))) | exact hS.sub (.cons _ (.cons _ (.cons _ (.cons _ lrQ))))) (fun w hS => (fa123_0 rfl)) ?_
     refine f_step 13 (by kernel_rfl) rfl (fun c a a' w h => by obtain ⟨_, v, hv, _⟩ := h; cases hv) (by first | exact hS | exact hS.sub (.cons _ lrQ) | exact hS.sub (.cons _ (.cons _ lrQ)) | exact hS.sub (.cons _ (.cons _ (.cons _ lrQ))) | exact hS.sub (.cons _ (.cons _ (.cons _ (.cons _ lrQ))))) (fun w hS => (fa29_3 rfl)) ?_
     refine f_step 14 (by kernel_rfl) rfl (fun c a a' w h => by obtain ⟨_, v, hv, _⟩ := h; cases hv) (by first | exact hS | exact hS.sub (.cons _ lrQ) | exact hS.sub (.cons _ (.cons _ lrQ)) | exact hS.sub (.cons _ (.cons _ (.cons _ lrQ))) | exact hS.sub (.cons _ (.cons _ (.cons _ (.cons _ lrQ))))) (fun w hS => (yLdB rfl Tryz.isAgg3 (hS.at _) rfl)) ?_
     refine f_step 15 (by kernel_rfl) rfl (fun c a a' w h => by obtain ⟨_, v, hv, _⟩ := h; cases hv) (by first | exact hS | exact hS.sub (.cons _ lrQ) | exact hS.sub (.cons _ (.cons _ lrQ)) | exact hS.sub (.cons _ (.cons _ (.cons _ lrQ))) | exact hS.sub (.cons _ (.cons _ (.cons _ (.cons _ lrQ))))) (fun w hS => (yMove rfl)) ?_
     refine f_step 16 (by kernel_rfl) rfl (fun c a a' w h => by obtain ⟨_, v, hv, _⟩ := h; cases hv) (by first | exact hS | exact hS.sub (.cons _ lrQ) | exact hS.sub (.cons _ (.cons _ lrQ)) | exact hS.sub (.cons _ (.cons _ (.cons _ lrQ))) | exact hS.sub (.cons _ (.cons _ (.cons _ (.cons _ lrQ))))) (fun w hS => (yAdd rfl rfl ⟨by omega, by omega⟩)) ?_
     refine f_step 17 (by kernel_rfl) rfl (fun c a a' w h => by obtain ⟨_, v, hv, _⟩ := h; cases hv) (by first | exact hS | exact hS.sub (.cons _ lrQ) | exact hS.sub (.cons _ (.cons _ lrQ)) | exact hS.sub (.cons _ (.cons _ (.cons _ lrQ))) | exact hS.sub (.cons _ (.cons _ (.cons _ (.cons _ lrQ))))) (fun w hS => (yMove h0)) ?_
     refine f_step 18 (by kernel_rfl) rfl (fun c a a' w h => by obtain ⟨_, v, hv, _⟩ := h; cases hv) (by first | exact hS | exact hS.sub (.cons _ lrQ) | exact hS.sub (.cons _ (.cons _ lrQ)) | exact hS.sub (.cons _ (.cons _ (.cons _ lrQ))) | exact hS.sub (.cons _ (.cons _ (.cons _ (.cons _ lrQ))))) (fun w hS => (yNil rfl)) ?_
     refine f_step 19 (by kernel_rfl) rfl (fun c a a' w h => by obtain ⟨_, v, hv, _⟩ := h; cases hv) (by first | exact hS | exact hS.sub (.cons _ lrQ) | exact hS.sub (.cons _ (.cons _ lrQ)) | exact hS.sub (.cons _ (.cons _ (.cons _ lrQ))) | exact hS.sub (.cons _ (.cons _ (.cons _ (.cons _ lrQ))))) (fun w hS => (fa123_1 rfl)) ?_
     refine f_step 20 (by kernel_rfl) rfl (fun c a a' w h => by obtain ⟨_, v, hv, _⟩ := h; cases hv) (by first | exact hS | exact hS.sub (.cons _ lrQ) | exact hS.sub (.cons _ (.cons _ lrQ)) | exact hS.sub (.cons _ (.cons _ (.cons _ lrQ))) | exact hS.sub (.cons _ (.cons _ (.cons _ (.cons _ lrQ))))) (fun w hS => (yLdB rfl Tryz.isAgg3 (hS.at _) rfl)) ?_
     refine awQ ?_
     refine a_step (i := 21) (is := [25]) (by kernel_rfl) ⟨?_, ?_, trivial⟩
     ·
      refine ⟨_, rfl, ?_⟩
      refine scall Tryz.call29 (.cons rfl (.cons rfl (.cons rfl (.cons rfl .nil)))) (c_Sound (hG.ext RGauge.stays hS.ext) hw64 ⟨by omega, by omega⟩ ⟨by omega, by omega⟩) ?_
      rintro _ w ⟨rfl, hE⟩; replace hS := hS.step hE; clear hE
      refine nil ?_
      refine ⟨fun _ => (by first | exact hS | exact hS.sub (.cons _ lrQ) | exact hS.sub (.cons _ (.cons _ lrQ)) | exact hS.sub (.cons _ (.cons _ (.cons _ lrQ))) | exact hS.sub (.cons _ (.cons _ (.cons _ (.cons _ lrQ))))), ?_⟩
      refine awQ ?_
      refine f_step 22 (by kernel_rfl) rfl (fun c a a' w h => by obtain ⟨_, v, hv, _⟩ := h; cases hv) (by first | exact hS | exact hS.sub (.cons _ lrQ) | exact hS.sub (.cons _ (.cons _ lrQ)) | exact hS.sub (.cons _ (.cons _ (.cons _ lrQ))) | exact hS.sub (.cons _ (.cons _ (.cons _ (.cons _ lrQ))))) (fun w hS => (yMove rfl)) ?_
      refine f_step 23 (by kernel_rfl) rfl (fun c a a' w h => by obtain ⟨_, v, hv, _⟩ := h; cases hv) (by first | exact hS | exact hS.sub (.cons _ lrQ) | exact hS.sub (.cons _ (.cons _ lrQ)) | exact hS.sub (.cons _ (.cons _ (.cons _ lrQ))) | exact hS.sub (.cons _ (.cons _ (.cons _ (.cons _ lrQ))))) (fun w hS => (yExt rfl rfl)) ?_
      refine f_step 24 (by kernel_rfl) rfl (fun c a a' w h => by obtain ⟨_, v, hv, _⟩ := h; cases hv) (by first | exact hS | exact hS.sub (.cons _ lrQ) | exact hS.sub (.cons _ (.cons _ lrQ)) | exact hS.sub (.cons _ (.cons _ (.cons _ lrQ))) | exact hS.sub (.cons _ (.cons _ (.cons _ (.cons _ lrQ))))) (fun w hS => (yExt rfl rfl)) ?_
      refine awQ <| a1Q 25 (by kernel_rfl) rfl ?_
      refine salloc hS Tryz.zeroValue74 rfl ?_; clear hS; intro b8 w hS
      refine nil ?_
      refine ⟨fun _ => (by first | exact hS | exact hS.sub (.cons _ lrQ) | exact hS.sub (.cons _ (.cons _ lrQ)) | exact hS.sub (.cons _ (.cons _ (.cons _ lrQ))) | exact hS.sub (.cons _ (.cons _ (.cons _ (.cons _ lrQ))))), ?_⟩
      refine awQ <| awQ <| a1Q 26 (by kernel_rfl) rfl ?_
      refine sst hS rfl rfl Tryz.sizeOf74 rfl rfl rfl rfl ?_; clear hS; intro w hS
      refine nil ?_
      refine ⟨fun _ => (by first | exact hS | exact hS.sub (.cons _ lrQ) | exact hS.sub (.cons _ (.cons _ lrQ)) | exact hS.sub (.cons _ (.cons _ (.cons _ lrQ))) | exact hS.sub (.cons _ (.cons _ (.cons _ (.cons _ lrQ))))), ?_⟩
      refine awQ <| awQ <| a1Q 27 (by kernel_rfl) rfl <| sv (yAsg rfl) <| nil ?_
      refine ⟨fun h => absurd h (by decide), ?_⟩
      refine awQ <| a_end (by kernel_rfl) <| cwQ <| seq <| region <| sv (yMove rfl) <| sv (yEql rfl rfl) <| nil <| cwQ ?_
      refine cond rfl (fun c112 => ?_) (fun c112 => ?_)
      ·
       simp only [BS, ne_eq] at c112
       refine region_mix (fun w => StX [] w0 w (blk b8 (spanC (soundF t.gauges t.wrong (t.frm + k) now).1) 74 :: blk bk [.int .i64 t.table.mean, cv, .slice ag t.gauges.length cg, .int .i64 t.wrong, .int .i64 t.frm, .int .i64 t.ticks, .slice ak t.ctrs.length ck, .slice ae t.fcs.length ce, .int .i64 t.least, .int .i64 t.most, .int .i64 t.rate, .int .i64 t.quorum, .int .i64 now, .slice (some ⟨gw, 0, none⟩) t.ticks.toNat cw, .slice ax t.ctrs.length cx, .slice (some ⟨go, 0, none⟩) t.ticks.toNat co] 123 :: rowI (.slice (some ⟨gw, 0, none⟩) t.ticks.toNat cw) 74 2 t.ticks.toNat ((tidesS t).flatMap spanC) :: rowI (.slice ax t.ctrs.length cx) 3 1 t.ctrs.length ((curS t now).flatMap Bx.encI) :: L9)) 9 mixed hS ?_
       clear hS; intro w hS
       refine f_step 0 (by kernel_rfl) rfl (fun c a a' w h => by obtain ⟨_, v, hv, _⟩ := h; cases hv) (by first | exact hS.sub (.cons_cons _ (.cons _ lrQ)) | exact hS.sub (.cons _ (.cons_cons _ (.cons _ lrQ))) | exact hS.sub (.cons _ (.cons _ lrQ))) (fun w hS => (yMove h0)) ?_
       refine f_step 1 (by kernel_rfl) rfl (fun c a a' w h => by obtain ⟨_, v, hv, _⟩ := h; cases hv) (by first | exact hS.sub (.cons_cons _ (.cons _ lrQ)) | exact hS.sub (.cons _ (.cons_cons _ (.cons _ lrQ))) | exact hS.sub (.cons _ (.cons _ lrQ))) (fun w hS => (yNil rfl)) ?_
       refine f_step 2 (by kernel_rfl) rfl (fun c a a' w h => by obtain ⟨_, v, hv, _⟩ := h; cases hv) (by first | exact hS.sub (.cons_cons _ (.cons _ lrQ)) | exact hS.sub (.cons _ (.cons_cons _ (.cons _ lrQ))) | exact hS.sub (.cons _ (.cons _ lrQ))) (fun w hS => (fa123_4 rfl)) ?_
       refine f_step 3 (by kernel_rfl) rfl (fun c a a' w h => by obtain ⟨_, v, hv, _⟩ := h; cases hv) (by first | exact hS.sub (.cons_cons _ (.cons _ lrQ)) | exact hS.sub (.cons _ (.cons_cons _ (.cons _ lrQ))) | exact hS.sub (.cons _ (.cons _ lrQ))) (fun w hS => (yLdB rfl Tryz.isAgg121 (hS.at _) rfl)) ?_
       refine f_step 4 (by kernel_rfl) rfl (fun c a a' w h => by obtain ⟨_, v, hv, _⟩ := h; cases hv) (by first | exact hS.sub (.cons_cons _ (.cons _ lrQ)) | exact hS.sub (.cons _ (.cons_cons _ (.cons _ lrQ))) | exact hS.sub (.cons _ (.cons _ lrQ))) (fun w hS => (yMove rfl)) ?_
       refine f_step 5 (by kernel_rfl) rfl (fun c a a' w h => by obtain ⟨_, v, hv, _⟩ := h; cases hv) (by first | exact hS.sub (.cons_cons _ (.cons _ lrQ)) | exact hS.sub (.cons _ (.cons_cons _ (.cons _ lrQ))) | exact hS.sub (.cons _ (.cons _ lrQ))) (fun w hS => (yTailLt (i := k) rfl rfl Tryz.underlying121 Tryz.sizeOf74 (by omega) (by omega))) ?_
       refine f_step 6 (by kernel_rfl) rfl (fun c a a' w h => by obtain ⟨_, v, hv, _⟩ := h; cases hv) (by first | exact hS.sub (.cons_cons _ (.cons _ lrQ)) | exact hS.sub (.cons _ (.cons_cons _ (.cons _ lrQ))) | exact hS.sub (.cons _ (.cons _ lrQ))) (fun w hS => (yLdBA rfl Tryz.isAgg74 Tryz.sizeOf74 (hS.at _) rfl rfl)) ?_
       refine awQ <| a1Q 7 (by kernel_rfl) rfl ?_
       refine sbslice hS Tryz.underlying121 Tryz.sizeOf74 rfl Tryz.zeroValue74 rfl (.cons rfl rfl .nil) rfl ?_; clear hS; intro b120 w hS
       refine nil ?_
       refine ⟨fun _ => (by first | exact hS.sub (.cons_cons _ (.cons _ lrQ)) | exact hS.sub (.cons _ (.cons_cons _ (.cons _ lrQ))) | exact hS.sub (.cons _ (.cons _ lrQ))), ?_⟩
       refine awQ <| awQ <| a1Q 8 (by kernel_rfl) rfl ?_
       refine scall Tryz.call82 (.cons rfl (.cons rfl .nil)) (c_meetS (o := k) (ss := baseK t now k) (os := [(soundF t.gauges t.wrong (t.frm + k) now).1]) (hS.perm (perm_c _ _ _ _)) (fun q w2 h2 => sl_span1 (h2.at b120) ((sound_sbd c112).mono (by decide)).i64) (by show 1 ≤ _; omega) (baseK_len ..) (by omega) (by omega)) ?_
       rintro _ w ⟨-, hM⟩; clear hS; have hS := hM; clear hM
       replace hS : StX [] w0 w (rowI (.slice (some ⟨go, 0, none⟩) t.ticks.toNat co) 74 2 t.ticks.toNat ((meetK (baseK t now k) [(soundF t.gauges t.wrong (t.frm + k) now).1] k 1).flatMap spanC) :: _) := hS
       rw [meetK_one, ← baseK_yes hkl hg1 c112] at hS
       refine nil ?_
       refine ⟨fun _ => (by first | exact hS.sub (.cons_cons _ (.cons _ lrQ)) | exact hS.sub (.cons _ (.cons_cons _ (.cons _ lrQ))) | exact hS.sub (.cons _ (.cons _ lrQ))), ?_⟩
       refine awQ <| a_end (by kernel_rfl) <| cwQ <| region <| sv (yAdd h76 rfl ⟨by omega, by omega⟩) <| sv (yMove rfl) <| nil ?_
       exact ⟨_, _, rfl, ⟨k + 1, h0, h74, h75, rfl, (hS.sub (.cons_cons _ (.cons _ (.cons _ lrQ)))), (by omega), rfl⟩, by omega⟩
      ·
       simp only [BS, ne_eq] at c112
       refine skip <| cwQ <| region <| sv (yAdd h76 rfl ⟨by omega, by omega⟩) <| sv (yMove rfl) <| nil ?_
       exact ⟨_, _, rfl, ⟨k + 1, h0, h74, h75, rfl, (by rw [baseK_no c112]; exact hS.sub (.cons _ lrQ)), (by omega), rfl⟩, by omega⟩
     ·
      refine ⟨_, rfl, ?_⟩
      refine salloc hS Tryz.zeroValue74 rfl ?_; clear hS; intro b8 w hS
      refine nil ?_
      refine ⟨fun _ => (by first | exact hS | exact hS.sub (.cons _ lrQ) | exact hS.sub (.cons _ (.cons _ lrQ)) | exact hS.sub (.cons _ (.cons _ (.cons _ lrQ))) | exact hS.sub (.cons _ (.cons _ (.cons _ (.cons _ lrQ))))), ?_⟩
      refine awQ <| awQ <| a1Q 21 (by kernel_rfl) rfl ?_
      refine scall Tryz.call29 (.cons rfl (.cons rfl (.cons rfl (.cons rfl .nil)))) (c_Sound (hG.ext RGauge.stays hS.ext) hw64 ⟨by omega, by omega⟩ ⟨by omega, by omega⟩) ?_
      rintro _ w ⟨rfl, hE⟩; replace hS := hS.step hE; clear hE
      refine nil ?_
      refine ⟨fun _ => (by first | exact hS | exact hS.sub (.cons _ lrQ) | exact hS.sub (.cons _ (.cons _ lrQ)) | exact hS.sub (.cons _ (.cons _ (.cons _ lrQ))) | exact hS.sub (.cons _ (.cons _ (.cons _ (.cons _ lrQ))))), ?_⟩
      refine awQ ?_
      refine f_step 22 (by kernel_rfl) rfl (fun c a a' w h => by obtain ⟨_, v, hv, _⟩ := h; cases hv) (by first | exact hS | exact hS.sub (.cons _ lrQ) | exact hS.sub (.cons _ (.cons _ lrQ)) | exact hS.sub (.cons _ (.cons _ (.cons _ lrQ))) | exact hS.sub (.cons _ (.cons _ (.cons _ (.cons _ lrQ))))) (fun w hS => (yMove rfl)) ?_
      refine f_step 23 (by kernel_rfl) rfl (fun c a a' w h => by obtain ⟨_, v, hv, _⟩ := h; cases hv) (by first | exact hS | exact hS.sub (.cons _ lrQ) | exact hS.sub (.cons _ (.cons _ lrQ)) | exact hS.sub (.cons _ (.cons _ (.cons _ lrQ))) | exact hS.sub (.cons _ (.cons _ (.cons _ (.cons _ lrQ))))) (fun w hS => (yExt rfl rfl)) ?_
      refine f_step 24 (by kernel_rfl) rfl (fun c a a' w h => by obtain ⟨_, v, hv, _⟩ := h; cases hv) (by first | exact hS | exact hS.sub (.cons _ lrQ) | exact hS.sub (.cons _ (.cons _ lrQ)) | exact hS.sub (.cons _ (.cons _ (.cons _ lrQ))) | exact hS.sub (.cons _ (.cons _ (.cons _ (.cons _ lrQ))))) (fun w hS => (yExt rfl rfl)) ?_
      refine awQ <| a1Q 26 (by kernel_rfl) rfl ?_
      refine sst hS rfl rfl Tryz.sizeOf74 rfl rfl rfl rfl ?_; clear hS; intro w hS
      refine nil ?_
      refine ⟨fun _ => (by first | exact hS | exact hS.sub (.cons _ lrQ) | exact hS.sub (.cons _ (.cons _ lrQ)) | exact hS.sub (.cons _ (.cons _ (.cons _ lrQ))) | exact hS.sub (.cons _ (.cons _ (.cons _ (.cons _ lrQ))))), ?_⟩
      refine awQ <| awQ <| a1Q 27 (by kernel_rfl) rfl <| sv (yAsg rfl) <| nil ?_
      refine ⟨fun h => absurd h (by decide), ?_⟩
      refine awQ <| a_end (by kernel_rfl) <| cwQ <| seq <| region <| sv (yMove rfl) <| sv (yEql rfl rfl) <| nil <| cwQ ?_
      refine cond rfl (fun c112 => ?_) (fun c112 => ?_)
      ·
       simp only [BS, ne_eq] at c112
       refine region_mix (fun w => StX [] w0 w (blk b8 (spanC (soundF t.gauges t.wrong (t.frm + k) now).1) 74 :: blk bk [.int .i64 t.table.mean, cv, .slice ag t.gauges.length cg, .int .i64 t.wrong, .int .i64 t.frm, .int .i64 t.ticks, .slice ak t.ctrs.length ck, .slice ae t.fcs.length ce, .int .i64 t.least, .int .i64 t.most, .int .i64 t.rate, .int .i64 t.quorum, .int .i64 now, .slice (some ⟨gw, 0, none⟩) t.ticks.toNat cw, .slice ax t.ctrs.length cx, .slice (some ⟨go, 0, none⟩) t.ticks.toNat co] 123 :: rowI (.slice (some ⟨gw, 0, none⟩) t.ticks.toNat cw) 74 2 t.ticks.toNat ((tidesS t).flatMap spanC) :: rowI (.slice ax t.ctrs.length cx) 3 1 t.ctrs.length ((curS t now).flatMap Bx.encI) :: L9)) 9 mixed hS ?_
       clear hS; intro w hS
       refine f_step 0 (by kernel_rfl) rfl (fun c a a' w h => by obtain ⟨_, v, hv, _⟩ := h; cases hv) (by first | exact hS.sub (.cons_cons _ (.cons _ lrQ)) | exact hS.sub (.cons _ (.cons_cons _ (.cons _ lrQ))) | exact hS.sub (.cons _ (.cons _ lrQ))) (fun w hS => (yMove h0)) ?_
       refine f_step 1 (by kernel_rfl) rfl (fun c a a' w h => by obtain ⟨_, v, hv, _⟩ := h; cases hv) (by first | exact hS.sub (.cons_cons _ (.cons _ lrQ)) | exact hS.sub (.cons _ (.cons_cons _ (.cons _ lrQ))) | exact hS.sub (.cons _ (.cons _ lrQ))) (fun w hS => (yNil rfl)) ?_
       refine f_step 2 (by kernel_rfl) rfl (fun c a a' w h => by obtain ⟨_, v, hv, _⟩ := h; cases hv) (by first | exact hS.sub (.cons_cons _ (.cons _ lrQ)) | exact hS.sub (.cons _ (.cons_cons _ (.cons _ lrQ))) | exact hS.sub (.cons _ (.cons _ lrQ))) (fun w hS => (fa123_4 rfl)) ?_
       refine f_step 3 (by kernel_rfl) rfl (fun c a a' w h => by obtain ⟨_, v, hv, _⟩ := h; cases hv) (by first | exact hS.sub (.cons_cons _ (.cons _ lrQ)) | exact hS.sub (.cons _ (.cons_cons _ (.cons _ lrQ))) | exact hS.sub (.cons _ (.cons _ lrQ))) (fun w hS => (yLdB rfl Tryz.isAgg121 (hS.at _) rfl)) ?_
       refine f_step 4 (by kernel_rfl) rfl (fun c a a' w h => by obtain ⟨_, v, hv, _⟩ := h; cases hv) (by first | exact hS.sub (.cons_cons _ (.cons _ lrQ)) | exact hS.sub (.cons _ (.cons_cons _ (.cons _ lrQ))) | exact hS.sub (.cons _ (.cons _ lrQ))) (fun w hS => (yMove rfl)) ?_
       refine f_step 5 (by kernel_rfl) rfl (fun c a a' w h => by obtain ⟨_, v, hv, _⟩ := h; cases hv) (by first | exact hS.sub (.cons_cons _ (.cons _ lrQ)) | exact hS.sub (.cons _ (.cons_cons _ (.cons _ lrQ))) | exact hS.sub (.cons _ (.cons _ lrQ))) (fun w hS => (yTailLt (i := k) rfl rfl Tryz.underlying121 Tryz.sizeOf74 (by omega) (by omega))) ?_
       refine f_step 6 (by kernel_rfl) rfl (fun c a a' w h => by obtain ⟨_, v, hv, _⟩ := h; cases hv) (by first | exact hS.sub (.cons_cons _ (.cons _ lrQ)) | exact hS.sub (.cons _ (.cons_cons _ (.cons _ lrQ))) | exact hS.sub (.cons _ (.cons _ lrQ))) (fun w hS => (yLdBA rfl Tryz.isAgg74 Tryz.sizeOf74 (hS.at _) rfl rfl)) ?_
       refine awQ <| a1Q 7 (by kernel_rfl) rfl ?_
       refine sbslice hS Tryz.underlying121 Tryz.sizeOf74 rfl Tryz.zeroValue74 rfl (.cons rfl rfl .nil) rfl ?_; clear hS; intro b120 w hS
       refine nil ?_
       refine ⟨fun _ => (by first | exact hS.sub (.cons_cons _ (.cons _ lrQ)) | exact hS.sub (.cons _ (.cons_cons _ (.cons _ lrQ))) | exact hS.sub (.cons _ (.cons _ lrQ))), ?_⟩
       refine awQ <| awQ <| a1Q 8 (by kernel_rfl) rfl ?_
       refine scall Tryz.call82 (.cons rfl (.cons rfl .nil)) (c_meetS (o := k) (ss := baseK t now k) (os := [(soundF t.gauges t.wrong (t.frm + k) now).1]) (hS.perm (perm_c _ _ _ _)) (fun q w2 h2 => sl_span1 (h2.at b120) ((sound_sbd c112).mono (by decide)).i64) (by show 1 ≤ _; omega) (baseK_len ..) (by omega) (by omega)) ?_
       rintro _ w ⟨-, hM⟩; clear hS; have hS := hM; clear hM
       replace hS : StX [] w0 w (rowI (.slice (some ⟨go, 0, none⟩) t.ticks.toNat co) 74 2 t.ticks.toNat ((meetK (baseK t now k) [(soundF t.gauges t.wrong (t.frm + k) now).1] k 1).flatMap spanC) :: _) := hS
       rw [meetK_one, ← baseK_yes hkl hg1 c112] at hS
       refine nil ?_
       refine ⟨fun _ => (by first | exact hS.sub (.cons_cons _ (.cons _ lrQ)) | exact hS.sub (.cons _ (.cons_cons _ (.cons _ lrQ))) | exact hS.sub (.cons _ (.cons _ lrQ))), ?_⟩
       refine awQ <| a_end (by kernel_rfl) <| cwQ <| region <| sv (yAdd h76 rfl ⟨by omega, by omega⟩) <| sv (yMove rfl) <| nil ?_
       exact ⟨_, _, rfl, ⟨k + 1, h0, h74, h75, rfl, (hS.sub (.cons_cons _ (.cons _ (.cons _ lrQ)))), (by omega), rfl⟩, by omega⟩
      ·
       simp only [BS, ne_eq] at c112
       refine skip <| cwQ <| region <| sv (yAdd h76 rfl ⟨by omega, by omega⟩) <| sv (yMove rfl) <| nil ?_
       exact ⟨_, _, rfl, ⟨k + 1, h0, h74, h75, rfl, (by rw [baseK_no c112]; exact hS.sub (.cons _ lrQ)), (by omega), rfl⟩, by omega⟩
   ·
    simp only [BS, ne_eq] at c77
    obtain rfl : k = t.ticks.toNat := by omega
    rw [baseK_all] at hS
    refine exit <| cwQ <| seq <| region <| sv (yMove h0) <| sv (yNil rfl) <| sv (fa123_4 rfl) <| sv (yLdB rfl Tryz.isAgg121 (hS.at _) rfl) ?_
    refine scall Tryz.call120 (.cons rfl .nil) (c_CloneS (sl_spans (hS.row _) (baseS_len ..) (lbd_i64 (baseS_lbd hok now))) (baseS_len ..) (by omega)) ?_
    rintro u w hM2; replace hS := hS.call1 hM2; clear hM2
    refine sv (yAsg rfl) <| nil <| cwQ <| wp_ret <| retQ (res1 rfl rfl) ?_
    exact ⟨_, hS.perm ((List.Perm.swap _ _ _).cons _)⟩
 ·
  obtain ⟨rfl, rfl⟩ : os = baseS t now ∧ mo = t.ticks.toNat := by
   rcases hown with ⟨_, _, e⟩ | hh
   ·
    cases e; cases c14
   ·
    exact hh
  refine skip <| cwQ <| seq <| region <| sv (yMove rfl) <| sv (yNil rfl) <| sv (fa123_4 rfl) <| sv (yLdB rfl Tryz.isAgg121 (hS.at _) rfl) ?_
  refine scall Tryz.call120 (.cons rfl .nil) (c_CloneS (sl_spans (hS.row _) (baseS_len ..) (lbd_i64 (baseS_lbd hok now))) (baseS_len ..) (by omega)) ?_
  rintro u w hM2; replace hS := hS.call1 hM2; clear hM2
  refine sv (yAsg rfl) <| nil <| cwQ <| wp_ret <| retQ (res1 rfl rfl) ?_
  exact ⟨_, hS⟩
end Go.Proofs.YtgidbailiababaaGreatDoor

/- part Sw8 -/
namespace Go.Proofs.YtgidbailiababaaGreatDoor
open Go Bx
set_option maxHeartbeats 4000000 in
theorem c_with {t : Sgt} {cv : Value} {ag ak ae : Option Addr} {cg ck ce : Nat} {now : Int} {w0 : World} (h : RSgt w0 [.int .i64 t.table.mean, cv, .slice ag t.gauges.length cg, .int .i64 t.wrong, .int .i64 t.frm, .int .i64 t.ticks, .slice ak t.ctrs.length ck, .slice ae t.fcs.length ce, .int .i64 t.least, .int .i64 t.most, .int .i64 t.rate, .int .i64 t.quorum] t) (hI : I64 now) : CE Tryz.prog 63 #[.agg [.int .i64 t.table.mean, cv, .slice ag t.gauges.length cg, .int .i64 t.wrong, .int .i64 t.frm, .int .i64 t.ticks, .slice ak t.ctrs.length ck, .slice ae t.fcs.length ce, .int .i64 t.least, .int .i64 t.most, .int .i64 t.rate, .int .i64 t.quorum].toArray, .int .i64 now] w0 (fun u w' => (askE t now ≠ 0 ∧ u = .tuple #[.pointer none, .int .i64 (askE t now)] ∧ Ext w0 w') ∨ (askE t now = 0 ∧ ∃ bk aw cw ax cx, u = .tuple #[.pointer (some ⟨bk, 0, none⟩), .int .i64 0] ∧ St w0 w' [blk bk [.int .i64 t.table.mean, cv, .slice ag t.gauges.length cg, .int .i64 t.wrong, .int .i64 t.frm, .int .i64 t.ticks, .slice ak t.ctrs.length ck, .slice ae t.fcs.length ce, .int .i64 t.least, .int .i64 t.most, .int .i64 t.rate, .int .i64 t.quorum, .int .i64 now, .slice aw t.ticks.toNat cw, .slice ax t.ctrs.length cx, .slice none 0 0] 123, rowI (.slice aw t.ticks.toNat cw) 74 2 t.ticks.toNat ((tidesS t).flatMap spanC), rowI (.slice ax t.ctrs.length cx) 3 1 t.ctrs.length ((curS t now).flatMap Bx.encI)])) := by
 obtain ⟨hT, hG, hw64, hf64, hk64, hC, hF, hl64, hm64, hr64, hq64⟩ := RSgt.parts h
 refine enter Tryz.func63 rfl Tryz.ntmps63 rfl ?_
 have hS := St.start w0
 refine seq <| region ?_
 refine sbox hS rfl rfl ?_; clear hS; intro b2 w hS
 refine sv (yAsg rfl) <| sv (yAsg rfl) <| nil <| cwQ <| seq <| region <| sv (yLdBA rfl Tryz.isAgg29 Tryz.sizeOf29 (hS.at _) rfl rfl) ?_
 refine scall Tryz.call17 (.cons rfl .nil) (c_CheckS (h.ext hS.ext)) ?_
 rintro _ w ⟨rfl, hE⟩; replace hS := hS.step hE; clear hE
 refine sv (yMove rfl) <| sv (yExt rfl rfl) <| sv (yExt rfl rfl) <| sv (yExt rfl rfl) <| sv (yAsg rfl) <| sv (yAsg rfl) <| sv (yAsg rfl) <| nil <| cwQ ?_
 refine seq <| block <| seq <| region <| sv (yMove rfl) <| sv (yNeq rfl rfl) <| sv (yAsg rfl) <| nil <| cwQ ?_
 refine cond rfl (fun c21 => ?_) (fun c21 => ?_)
 ·
  simp only [BS, ne_eq] at c21
  refine seq <| region <| sv (yMove rfl) <| sv (yAsg rfl) <| sv (yAsg rfl) <| nil <| cwQ ?_
  refine wp_ret (blockR (thenR ?_))
  refine retQ (res2 rfl rfl rfl) ?_
  have hE : askE t now = (checkS t).2.2 := by unfold askE; rw [if_pos c21]
  exact .inl ⟨by rw [hE]; exact c21, by rw [hE]; rfl, hS.ext⟩
 ·
  simp only [BS, ne_eq] at c21
  refine seq <| region <| sv (yMove rfl) ?_
  refine scall Tryz.call53 (.cons rfl (.cons rfl (.cons rfl .nil))) c_outS ?_
  rintro _ w ⟨rfl, hE⟩; replace hS := hS.step hE; clear hE
  refine sv (yAsg rfl) <| nil <| cwQ ?_
  refine cond rfl (fun c25 => ?_) (fun c25 => ?_)
  ·
   refine seq <| region <| sv (yAsg rfl) <| sv (yAsg rfl) <| nil <| cwQ ?_
   refine wp_ret (blockR (thenR ?_))
   refine retQ (res2 rfl rfl rfl) ?_
   have hE : askE t now = 7 := by unfold askE; rw [if_neg (fun k => k c21), if_pos c25]
   exact .inl ⟨by rw [hE]; decide, by rw [hE]; rfl, hS.ext⟩
  ·
   have hask : askE t now = 0 := by unfold askE; rw [if_neg (fun k => k c21), if_neg (by rw [c25]; decide)]
   obtain ⟨hok, hnow⟩ := askE_ok hask
   have htk := hok.tk
   have hnc := hok.nc
   have hnf := hok.nf
   refine skip <| cwQ <| seq <| region <| sv (yLdBA rfl Tryz.isAgg29 Tryz.sizeOf29 (hS.at _) rfl rfl) <| sv (yMove rfl) <| sv (yBuild Tryz.zeroValue123 rfl pl123 (.cons rfl rfl (.cons rfl rfl .nil)) rfl) ?_
   refine sbox hS rfl rfl ?_; clear hS; intro b31 w hS
   refine sv (yAsg rfl) <| nil <| cwQ <| seq <| region <| sv (yMove rfl) <| sv (fa29_0 rfl) <| sv (yLdBA rfl Tryz.isAgg24 Tryz.sizeOf24 (hS.at _) rfl rfl) <| sv (fa29_3 rfl) ?_
   refine sv (yLdB rfl Tryz.isAgg3 (hS.at _) rfl) <| sv (fa29_4 rfl) <| sv (yLdB rfl Tryz.isAgg3 (hS.at _) rfl) ?_
   refine scall Tryz.call54 (.cons rfl (.cons rfl (.cons rfl .nil))) (c_Levels (RTable.stays _ _ _ _ hS.ext hT)) ?_
   rintro _ w ⟨tv, rfl, hM⟩; replace hS := hS.call1 hM; clear hM
   rw [levelsF_good hok.lev, show lvlsL t.table t.frm t.ticks.toNat = tidesS t from rfl, tidesS_len] at hS
   obtain ⟨aw, cw, rfl⟩ := row_shape (hS.row tv)
   refine sv (yMove rfl) <| sv (yExt rfl rfl) <| sv (yExt rfl rfl) <| sv (yNil rfl) <| sv (fa123_2 rfl) ?_
   refine sst hS rfl rfl Tryz.sizeOf121 rfl rfl rfl rfl ?_; clear hS; intro w hS
   refine nil <| cwQ <| seq <| seq <| region <| sv (fa29_5 rfl) <| sv (yLdB rfl Tryz.isAgg26 (hS.at _) rfl) <| sv (yLen rfl Tryz.underlying26) <| sv (yMove rfl) ?_
   refine nil <| cwQ <| block <| loop (fun f w zz => ∃ (k : Nat) (xv : Value), f 1 = .int .i64 now ∧ f 2 = .pointer (some ⟨b2, 0, none⟩) ∧ f 9 = .pointer (some ⟨b31, 0, none⟩) ∧ f 46 = .slice ak t.ctrs.length ck ∧ f 47 = .int .i64 (t.ctrs.length : Int) ∧ f 48 = .int .i64 (k : Int) ∧ StX [] w0 w ([rowI (xv) 3 1 k (((curS t now).take k).flatMap Bx.encI), rowI (.slice aw t.ticks.toNat cw) 74 2 t.ticks.toNat ((tidesS t).flatMap spanC), blk b31 [.int .i64 t.table.mean, cv, .slice ag t.gauges.length cg, .int .i64 t.wrong, .int .i64 t.frm, .int .i64 t.ticks, .slice ak t.ctrs.length ck, .slice ae t.fcs.length ce, .int .i64 t.least, .int .i64 t.most, .int .i64 t.rate, .int .i64 t.quorum, .int .i64 now, .slice aw t.ticks.toNat cw, xv, .slice none 0 0] 123, blk b2 [.int .i64 t.table.mean, cv, .slice ag t.gauges.length cg, .int .i64 t.wrong, .int .i64 t.frm, .int .i64 t.ticks, .slice ak t.ctrs.length ck, .slice ae t.fcs.length ce, .int .i64 t.least, .int .i64 t.most, .int .i64 t.rate, .int .i64 t.quorum] 29]) ∧ (k ≤ t.ctrs.length) ∧ zz = t.ctrs.length - k) _ ⟨_, rfl, 0, _, rfl, rfl, rfl, rfl, rfl, rfl, (hS.nilrow 3 1), (Nat.zero_le _), rfl⟩ ?_
   clear hS
   rintro f w _ ⟨k, xv, h1, h2, h9, h46, h47, h48, hS, hk, rfl⟩
   refine seq <| region <| sv (yLss h48 h47) <| nil <| cwQ <| seq ?_
   refine cond rfl (fun c49 => ?_) (fun c49 => ?_)
   ·
    simp only [BS, ne_eq] at c49
    have hkl : k < t.ctrs.length := by omega
    obtain ⟨bq, oq, cq, haq, hlq, hcq, hRq, -⟩ := sl_at hC (ctr_get hkl)
    obtain ⟨rfl, hnm, -⟩ := hRq
    obtain ⟨q1, q2, q3⟩ := hok.ctrs hkl
    refine skip <| cwQ <| seq <| block <| seq <| region <| sv (yMove h48) <| sv (yIxa h46 haq h48 Tryz.runUnderlying26 Tryz.sizeOf57 (by omega) (by omega)) <| sv (yLdA rfl Tryz.isAgg57 Tryz.sizeOf57 (hcq.ext hS.ext) rfl) ?_
    refine salloc hS Tryz.zeroValue57 rfl ?_; clear hS; intro b11 w hS
    refine sv (yAsg rfl) ?_
    refine sst hS rfl rfl Tryz.sizeOf57 rfl rfl rfl rfl ?_; clear hS; intro w hS
    refine nil <| cwQ <| seq <| region <| sv (yAsg rfl) <| nil <| cwQ <| seq <| seq ?_
    refine region <| sv (fa29_6 h2) <| sv (yLdB rfl Tryz.isAgg27 (hS.at _) rfl) <| sv (yLen rfl Tryz.underlying27) <| sv (yMove rfl) <| nil <| cwQ <| block <| loop (fun f w zz => ∃ (j : Nat), f 1 = .int .i64 now ∧ f 2 = .pointer (some ⟨b2, 0, none⟩) ∧ f 9 = .pointer (some ⟨b31, 0, none⟩) ∧ f 46 = .slice ak t.ctrs.length ck ∧ f 47 = .int .i64 (t.ctrs.length : Int) ∧ f 48 = .int .i64 (k : Int) ∧ f 10 = .int .i64 (k : Int) ∧ f 11 = .pointer (some ⟨b11, 0, none⟩) ∧ f 12 = .int .i64 (curK t now k j) ∧ f 54 = .slice ae t.fcs.length ce ∧ f 55 = .int .i64 (t.fcs.length : Int) ∧ f 56 = .int .i64 (j : Int) ∧ StX [] w0 w ([blk b11 (ctrC (ctr t.ctrs k)) 57, rowI (xv) 3 1 k (((curS t now).take k).flatMap Bx.encI), rowI (.slice aw t.ticks.toNat cw) 74 2 t.ticks.toNat ((tidesS t).flatMap spanC), blk b31 [.int .i64 t.table.mean, cv, .slice ag t.gauges.length cg, .int .i64 t.wrong, .int .i64 t.frm, .int .i64 t.ticks, .slice ak t.ctrs.length ck, .slice ae t.fcs.length ce, .int .i64 t.least, .int .i64 t.most, .int .i64 t.rate, .int .i64 t.quorum, .int .i64 now, .slice aw t.ticks.toNat cw, xv, .slice none 0 0] 123, blk b2 [.int .i64 t.table.mean, cv, .slice ag t.gauges.length cg, .int .i64 t.wrong, .int .i64 t.frm, .int .i64 t.ticks, .slice ak t.ctrs.length ck, .slice ae t.fcs.length ce, .int .i64 t.least, .int .i64 t.most, .int .i64 t.rate, .int .i64 t.quorum] 29]) ∧ (j ≤ t.fcs.length) ∧ zz = t.fcs.length - j) _ ⟨_, rfl, 0, h1, h2, h9, h46, h47, h48, rfl, rfl, rfl, rfl, rfl, rfl, hS, (Nat.zero_le _), rfl⟩ ?_
    clear hS
    rintro f w _ ⟨j, h1, h2, h9, h46, h47, h48, h10, h11, h12, h54, h55, h56, hS, hj, rfl⟩
    refine seq <| region <| sv (yLss h56 h55) <| nil <| cwQ <| seq ?_
    refine cond rfl (fun c57 => ?_) (fun c57 => ?_)
    ·
     simp only [BS, ne_eq] at c57
     have hjl : j < t.fcs.length := by omega
     obtain ⟨bf, of, cf, haf, hlf, hcf, hRf, -⟩ := sl_at hF (fct_get hjl)
     obtain ⟨mv, rfl, hf1, hf2, hf3, hMm⟩ := hRf
     obtain ⟨am, cm, rfl, -⟩ := id hMm
     obtain ⟨fo1, fo2, fo3, -⟩ := hok.fcts hjl
     have hcb := curK_bd t now k j
     obtain ⟨bl, ol, hlast⟩ := fct_if hF (curK t now k j) (by omega)
     refine skip <| cwQ <| seq <| block <| seq <| region <| sv (yMove h56) <| sv (yIxa h54 haf h56 Tryz.runUnderlying27 Tryz.sizeOf61 (by omega) (by omega)) <| sv (yLdA rfl Tryz.isAgg61 Tryz.sizeOf61 (hcf.ext hS.ext) rfl) ?_
     refine salloc hS Tryz.zeroValue61 rfl ?_; clear hS; intro b14 w hS
     refine sv (yAsg rfl) ?_
     refine sst hS rfl rfl Tryz.sizeOf61 rfl rfl rfl rfl ?_; clear hS; intro w hS
     refine nil <| cwQ <| seq <| region_draw mixed (by kernel_rfl) hS <| qv (fun w hS => (fa61_0 rfl)) <| qv (fun w hS => (yLdB rfl Tryz.isAgg3 (hS.at _) rfl)) <| qv (fun w hS => (yMove h10)) <| qv (fun w hS => (yEql rfl rfl)) <| qv (fun w hS => (yMove rfl)) ?_
     refine qg rfl rfl rfl (fun g w hS => (fa61_1 rfl)) (fun v66 g66 => ?_)
     refine qg rfl rfl rfl (fun g w hS => (yLdB (g66.1 g) Tryz.isAgg3 (hS.at _) rfl)) (fun v67 g67 => ?_)
     refine qg rfl rfl rfl (fun g w hS => (yMove h1)) (fun v68 g68 => ?_)
     refine qg rfl rfl rfl (fun g w hS => (fa57_1 h11)) (fun v69 g69 => ?_)
     refine qg rfl rfl rfl (fun g w hS => (yLdB (g69.1 g) Tryz.isAgg3 (hS.at _) rfl)) (fun v70 g70 => ?_)
     refine qg rfl rfl rfl (fun g w hS => (ySub (g68.1 g) (g70.1 g) ⟨by omega, by omega⟩)) (fun v71 g71 => ?_)
     refine qg rfl rfl rfl (fun g w hS => (yLeq (g67.1 g) (g71.1 g))) (fun v72 g72 => ?_)
     refine qv (fun w hS => (yAnd rfl (fun hB => (g72.1 hB)) rfl)) <| qv (fun w hS => (yMove rfl)) ?_
     refine qg rfl rfl rfl (fun g w hS => (yMove h12)) (fun v75 g75 => ?_)
     refine qg rfl rfl rfl (fun g w hS => (yLss (g75.1 g) rfl)) (fun v76 g76 => ?_)
     refine qg rfl rfl rfl (fun g w hS => (yMove (g76.1 g))) (fun v77 g77 => ?_)
     refine qgg rfl rfl g77 (fun g w hS => (fa61_1 rfl)) (fun v78 g78 => ?_)
     refine qgg rfl rfl g77 (fun g w hS => (yLdB (g78.1 g) Tryz.isAgg3 (hS.at _) rfl)) (fun v79 g79 => ?_)
     refine qgg rfl rfl g77 (fun g w hS => (fa29_6 h2)) (fun v80 g80 => ?_)
     refine qgg rfl rfl g77 (fun g w hS => (yLdB (g80.1 g) Tryz.isAgg27 (hS.at _) rfl)) (fun v81 g81 => ?_)
     refine qgg rfl rfl g77 (fun g w hS => (yMove h12)) (fun v82 g82 => ?_)
     refine qgg rfl rfl g77 (fun g w hS => (yIxa (g81.1 g) (hlast (by have := of_decide_eq_false g.2; omega)).1 ((g82.1 g).trans (congrArg (Value.int .i64) (show curK t now k j = (((curK t now k j).toNat : Nat) : Int) by have := of_decide_eq_false g.2; omega))) Tryz.runUnderlying27 Tryz.sizeOf61 (by have := of_decide_eq_false g.2; omega) (by have := of_decide_eq_false g.2; omega))) (fun v83 g83 => ?_)
     refine qgg rfl rfl g77 (fun g w hS => (fa61_1 (g83.1 g))) (fun v84 g84 => ?_)
     refine qgg rfl rfl g77 (fun g w hS => (yLd (g84.1 g) Tryz.isAgg3 ((hlast (by have := of_decide_eq_false g.2; omega)).2 |> hS.ext.cell))) (fun v85 g85 => ?_)
     refine qgg rfl rfl g77 (fun g w hS => (yGtr (g79.1 g) (g85.1 g))) (fun v86 g86 => ?_)
     refine qg rfl rfl rfl (fun g w hS => (yOr (g77.1 g) rfl (fun hB => (g86.1 ⟨g, hB⟩)))) (fun v87 g87 => ?_)
     refine qv (fun w hS => (yAnd rfl (fun hB => (g87.1 hB)) rfl)) ?_
     clear hS; refine qnil (fun w hS => ?_)
     refine cwQ ?_
     refine cond rfl (fun c88 => ?_) (fun c88 => ?_)
     ·
      simp only [BS, ne_eq] at c88
      refine region <| sv (yMove rfl) <| sv (yAsg rfl) <| nil <| cwQ <| region <| sv (yAdd h56 rfl ⟨by omega, by omega⟩) <| sv (yMove rfl) <| nil ?_
      exact ⟨_, _, rfl, ⟨j + 1, h1, h2, h9, h46, h47, h48, h10, h11, (rfl.trans (congrArg (Value.int .i64) (by rw [curK_succ]; unfold curStep; rw [if_pos ⟨c88.1.1, c88.1.2, c88.2⟩]))), h54, h55, rfl, (hS.sub (.cons _ lrQ)), (by omega), rfl⟩, by omega⟩
     ·
      simp only [BS, ne_eq] at c88
      refine skip <| cwQ <| region <| sv (yAdd h56 rfl ⟨by omega, by omega⟩) <| sv (yMove rfl) <| nil ?_
      exact ⟨_, _, rfl, ⟨j + 1, h1, h2, h9, h46, h47, h48, h10, h11, (h12.trans (congrArg (Value.int .i64) (by rw [curK_succ]; unfold curStep; rw [if_neg (fun hh => by omega)]))), h54, h55, rfl, (hS.sub (.cons _ lrQ)), (by omega), rfl⟩, by omega⟩
    ·
     simp only [BS, ne_eq] at c57
     obtain rfl : j = t.fcs.length := by omega
     refine exit <| cwQ <| region <| sv (yMove h9) <| sv (yMove h9) <| sv (yNil rfl) <| sv (fa123_3 rfl) <| sv (yLdB rfl Tryz.isAgg39 (hS.at _) rfl) <| sv (yMove h12) ?_
     refine sbslice hS Tryz.underlying39 Tryz.sizeOf3 rfl Tryz.zeroValue3 rfl (.cons rfl rfl .nil) rfl ?_; clear hS; intro b97 w hS
     refine sapp (bytes := 8) (size := 1) (v := xv) (m := 1) hS rfl rfl Tryz.underlying39 ti3 rfl rfl rfl rfl (by decide) (blk_cells (hS.at _)) rfl rfl (by have := hok.nc; omega) (by have := hok.nc; omega) ?_; clear hS; intro v98 w hS
     refine sv (yNil rfl) <| sv (fa123_3 rfl) ?_
     obtain ⟨a98, c98, rfl⟩ := row_shape (hS.row v98)
     refine sst hS rfl rfl Tryz.sizeOf39 rfl rfl rfl rfl ?_; clear hS; intro w hS
     refine nil <| cwQ <| region <| sv (yAdd h48 rfl ⟨by omega, by omega⟩) <| sv (yMove rfl) <| nil ?_
     exact ⟨_, _, rfl, ⟨k + 1, _, h1, h2, h9, h46, h47, rfl, (by rw [take_snoc (curS_get t now hkl), List.flatMap_append]; exact hS.sub (.cons _ (.cons _ lrQ))), (by omega), rfl⟩, by omega⟩
   ·
    simp only [BS, ne_eq] at c49
    obtain rfl : k = t.ctrs.length := by omega
    rw [← curS_len t now, List.take_length, curS_len] at hS
    obtain ⟨ax, cx, rfl⟩ := row_shape (hS.row xv)
    refine exit <| cwQ <| seq <| region <| sv (yMove h9) <| sv (yAsg rfl) <| sv (yAsg rfl) <| nil <| cwQ ?_
    refine wp_ret <| retQ (res2 rfl rfl rfl) ?_
    exact .inr ⟨hask, b31, aw, cw, ax, cx, rfl, hS.perm (with_perm _ _ _ _) |>.sub (.cons_cons _ (.cons_cons _ (.cons_cons _ (List.nil_sublist _))))⟩
end Go.Proofs.YtgidbailiababaaGreatDoor

/- part Sw9 -/
namespace Go.Proofs.YtgidbailiababaaGreatDoor
open Go Bx
set_option maxHeartbeats 1000000 in
theorem c_endsS {l : List Span} {v : Value} {fr : Int} {nn : Nat} {w0 : World} (hsl : Sl w0 2 RSpan v l) (hn : l.length = nn) (hlen : nn ≤ 1000) : CE Tryz.prog 121 #[v, .int .i64 fr] w0 (fun u w' => ∃ lv hv, u = .tuple #[.agg [.int .i64 fr, lv].toArray, .agg [.int .i64 fr, hv].toArray] ∧ St w0 w' [rowI lv 3 1 nn ((losS l).flatMap Bx.encI), rowI hv 3 1 nn ((hisS l).flatMap Bx.encI)]) := by
 subst hn
 obtain ⟨a, cap, rfl, hcap, hmx, -⟩ := id hsl
 refine enter Tryz.func121 rfl Tryz.ntmps121 rfl ?_
 have hS := St.start w0
 refine seq <| region ?_
 refine salloc hS Tryz.zeroValue41 rfl ?_; clear hS; intro b4 w hS
 refine salloc hS Tryz.zeroValue41 rfl ?_; clear hS; intro b5 w hS
 refine nil <| cwQ <| seq <| region <| sv (yMove rfl) <| sv (yMove rfl) <| sv (fa41_0 rfl) ?_
 refine sst hS rfl rfl Tryz.sizeOf3 rfl rfl rfl rfl ?_; clear hS; intro w hS
 refine sv (fa41_0 rfl) ?_
 refine sst hS rfl rfl Tryz.sizeOf3 rfl rfl rfl rfl ?_; clear hS; intro w hS
 refine nil <| cwQ <| seq <| seq <| region <| sv (yMove rfl) <| sv (yLen rfl Tryz.underlying121) <| sv (yMove rfl) <| nil ?_
 refine cwQ <| block <| loop (fun f w zz => ∃ (k : Nat) (lv hv : Value), f 0 = .slice a l.length cap ∧ f 4 = .pointer (some ⟨b4, 0, none⟩) ∧ f 5 = .pointer (some ⟨b5, 0, none⟩) ∧ f 12 = .slice a l.length cap ∧ f 13 = .int .i64 (l.length : Int) ∧ f 14 = .int .i64 (k : Int) ∧ StX [] w0 w [rowI (lv) 3 1 k (((losS l).take k).flatMap Bx.encI), rowI (hv) 3 1 k (((hisS l).take k).flatMap Bx.encI), blk b5 [.int .i64 fr, hv] 41, blk b4 [.int .i64 fr, lv] 41] ∧ (k ≤ l.length) ∧ zz = l.length - k) _ ⟨_, rfl, 0, _, _, rfl, rfl, rfl, rfl, rfl, rfl, ((hS.nilrow 3 1).nilrow 3 1), (Nat.zero_le _), rfl⟩ ?_
 clear hS
 rintro f w _ ⟨k, lv, hv, h0, h4, h5, h12, h13, h14, hS, hk, rfl⟩
 refine seq <| region <| sv (yLss h14 h13) <| nil <| cwQ <| seq ?_
 refine cond rfl (fun c15 => ?_) (fun c15 => ?_)
 ·
  simp only [BS, ne_eq] at c15
  have hkl : k < l.length := by omega
  obtain ⟨bx, ox, cx, hax, hlx, hcx, hRx, -⟩ := sl_at hsl (spn_get (l := l) hkl)
  obtain ⟨rfl, -⟩ := hRx
  refine skip <| cwQ <| seq <| block <| seq <| region <| sv (yIxa h12 hax h14 Tryz.runUnderlying121 Tryz.sizeOf74 (by omega) (by omega)) <| sv (yLdA rfl Tryz.isAgg74 Tryz.sizeOf74 (hcx.ext hS.ext) rfl) ?_
  refine salloc hS Tryz.zeroValue74 rfl ?_; clear hS; intro b7 w hS
  refine sst hS rfl rfl Tryz.sizeOf74 rfl rfl rfl rfl ?_; clear hS; intro w hS
  refine nil <| cwQ ?_
  refine region_m (fun w => w.heap[b4]? = some (.cells ([.int .i64 fr, lv] : List Value).toArray 41 (0, 0)) ∧ w.heap[b7]? = some (.cells (spanC (spn l k) : List Value).toArray 74 (0, 0))) (fun w => w.heap[b5]? = some (.cells ([.int .i64 fr, hv] : List Value).toArray 41 (0, 0)) ∧ w.heap[b7]? = some (.cells (spanC (spn l k) : List Value).toArray 74 (0, 0))) [13] [15] mixed (fun c a a' w h => by obtain ⟨_, v, hv, _⟩ := h; cases hv) hS ?_; clear hS; intro w hS
  refine mq 0 0 [] (by kernel_rfl) rfl trivial (fun w hS => (fa41_1 h4)) <| mq 1 1 [5, 11, 12, 13] (by kernel_rfl) rfl ⟨hS.at b4, hS.at b7⟩ (fun w hS => (yLdB rfl Tryz.isAgg39 hS.1 rfl)) <| mq 0 2 [] (by kernel_rfl) rfl trivial (fun w hS => (fa74_0 rfl)) <| mq 1 3 [4, 5, 11, 12, 13] (by kernel_rfl) rfl ⟨hS.at b4, hS.at b7⟩ (fun w hS => (yLdB rfl Tryz.isAgg3 hS.2 rfl)) <| mq 0 6 [] (by kernel_rfl) rfl trivial (fun w hS => (fa41_1 h5)) <| mq 2 7 [11, 13, 14, 15] (by kernel_rfl) rfl ⟨hS.at b5, hS.at b7⟩ (fun w hS => (yLdB rfl Tryz.isAgg39 hS.1 rfl)) <| mq 0 8 [] (by kernel_rfl) rfl trivial (fun w hS => (fa74_1 rfl)) <| mq 2 9 [10, 11, 13, 14, 15] (by kernel_rfl) rfl ⟨hS.at b5, hS.at b7⟩ (fun w hS => (yLdB rfl Tryz.isAgg3 hS.2 rfl)) ?_
  refine ms (i := 4) (is := [10]) (by kernel_rfl) ⟨⟨_, rfl, ?_⟩, ⟨_, rfl, ?_⟩, trivial⟩
  ·
   refine sbslice hS Tryz.underlying39 Tryz.sizeOf3 rfl Tryz.zeroValue3 rfl (.cons rfl rfl .nil) rfl ?_; clear hS; intro b22 w hS
   refine nil ⟨⟨fun _ _ => ⟨hS.at b4, hS.at b7⟩, fun _ _ => ⟨hS.at b5, hS.at b7⟩⟩, mw ?_⟩
   refine ms (i := 5) (is := [10]) (by kernel_rfl) ⟨⟨_, rfl, ?_⟩, ⟨_, rfl, ?_⟩, trivial⟩
   ·
    refine sapp (bytes := 8) (size := 1) (v := lv) (m := 1) hS rfl rfl Tryz.underlying39 ti3 rfl rfl rfl rfl (by decide) (blk_cells (hS.at _)) rfl rfl (by omega) (by omega) ?_; clear hS; intro v23 w hS
    refine nil ⟨⟨fun _ _ => ⟨hS.at b4, hS.at b7⟩, fun _ _ => ⟨hS.at b5, hS.at b7⟩⟩, mw ?_⟩
    refine mq 0 12 [] (by kernel_rfl) rfl trivial (fun w hS => (fa41_1 h4)) <| m1 10 (by kernel_rfl) rfl ?_
    refine sbslice hS Tryz.underlying39 Tryz.sizeOf3 rfl Tryz.zeroValue3 rfl (.cons rfl rfl .nil) rfl ?_; clear hS; intro b28 w hS
    refine nil ⟨⟨fun _ _ => ⟨hS.at b4, hS.at b7⟩, fun _ _ => ⟨hS.at b5, hS.at b7⟩⟩, mw ?_⟩
    refine m1 11 (by kernel_rfl) rfl ?_
    refine sapp (bytes := 8) (size := 1) (v := hv) (m := 1) hS rfl rfl Tryz.underlying39 ti3 rfl rfl rfl rfl (by decide) (blk_cells (hS.at _)) rfl rfl (by omega) (by omega) ?_; clear hS; intro v29 w hS
    refine nil ⟨⟨fun _ _ => ⟨hS.at b4, hS.at b7⟩, fun _ _ => ⟨hS.at b5, hS.at b7⟩⟩, mw ?_⟩
    refine m1 13 (by kernel_rfl) rfl ?_
    obtain ⟨a23, c23, rfl⟩ := row_shape (hS.row v23)
    refine sst hS rfl rfl Tryz.sizeOf39 rfl rfl rfl rfl ?_; clear hS; intro w hS
    refine nil ⟨⟨fun h => absurd h (by decide), fun _ _ => ⟨hS.at b5, hS.at b7⟩⟩, mw ?_⟩
    refine mq 0 14 [] (by kernel_rfl) rfl trivial (fun w hS => (fa41_1 h5)) <| m1 15 (by kernel_rfl) rfl ?_
    have hS0 := hS
    obtain ⟨a29, c29, rfl⟩ := row_shape (hS.row v29)
    refine sst hS rfl rfl Tryz.sizeOf39 rfl rfl rfl rfl ?_; clear hS; intro w hS
    refine nil ⟨⟨fun _ h => ⟨(hS.at b4).trans ((hS0.at b4).symm.trans h.1), hS.at b7⟩, fun h => absurd h (by decide)⟩, mw ?_⟩
    refine me (by kernel_rfl) <| cwQ <| region <| sv (yAdd h14 rfl ⟨by omega, by omega⟩) <| sv (yMove rfl) <| nil ?_
    exact ⟨_, _, rfl, ⟨k + 1, _, _, h0, h4, h5, h12, h13, rfl, (by rw [take_snoc (show (losS l)[k]? = some (spn l k).lo by simp [losS, spn_get hkl]), take_snoc (show (hisS l)[k]? = some (spn l k).hi by simp [hisS, spn_get hkl]), List.flatMap_append, List.flatMap_append]; first | exact hS.sub (.cons _ (.cons _ (.cons _ lrQ))) | exact (hS.sub (.cons _ (.cons _ (.cons _ lrQ)))).perm (List.Perm.swap _ _ _)), (by omega), rfl⟩, by omega⟩
   ·
    refine sbslice hS Tryz.underlying39 Tryz.sizeOf3 rfl Tryz.zeroValue3 rfl (.cons rfl rfl .nil) rfl ?_; clear hS; intro b28 w hS
    refine nil ⟨⟨fun _ _ => ⟨hS.at b4, hS.at b7⟩, fun _ _ => ⟨hS.at b5, hS.at b7⟩⟩, mw ?_⟩
    refine m1 5 (by kernel_rfl) rfl ?_
    refine sapp (bytes := 8) (size := 1) (v := lv) (m := 1) hS rfl rfl Tryz.underlying39 ti3 rfl rfl rfl rfl (by decide) (blk_cells (hS.at _)) rfl rfl (by omega) (by omega) ?_; clear hS; intro v23 w hS
    refine nil ⟨⟨fun _ _ => ⟨hS.at b4, hS.at b7⟩, fun _ _ => ⟨hS.at b5, hS.at b7⟩⟩, mw ?_⟩
    refine mq 0 12 [] (by kernel_rfl) rfl trivial (fun w hS => (fa41_1 h4)) <| m1 11 (by kernel_rfl) rfl ?_
    refine sapp (bytes := 8) (size := 1) (v := hv) (m := 1) hS rfl rfl Tryz.underlying39 ti3 rfl rfl rfl rfl (by decide) (blk_cells (hS.at _)) rfl rfl (by omega) (by omega) ?_; clear hS; intro v29 w hS
    refine nil ⟨⟨fun _ _ => ⟨hS.at b4, hS.at b7⟩, fun _ _ => ⟨hS.at b5, hS.at b7⟩⟩, mw ?_⟩
    refine m1 13 (by kernel_rfl) rfl ?_
    obtain ⟨a23, c23, rfl⟩ := row_shape (hS.row v23)
    refine sst hS rfl rfl Tryz.sizeOf39 rfl rfl rfl rfl ?_; clear hS; intro w hS
    refine nil ⟨⟨fun h => absurd h (by decide), fun _ _ => ⟨hS.at b5, hS.at b7⟩⟩, mw ?_⟩
    refine mq 0 14 [] (by kernel_rfl) rfl trivial (fun w hS => (fa41_1 h5)) <| m1 15 (by kernel_rfl) rfl ?_
    have hS0 := hS
    obtain ⟨a29, c29, rfl⟩ := row_shape (hS.row v29)
    refine sst hS rfl rfl Tryz.sizeOf39 rfl rfl rfl rfl ?_; clear hS; intro w hS
    refine nil ⟨⟨fun _ h => ⟨(hS.at b4).trans ((hS0.at b4).symm.trans h.1), hS.at b7⟩, fun h => absurd h (by decide)⟩, mw ?_⟩
    refine me (by kernel_rfl) <| cwQ <| region <| sv (yAdd h14 rfl ⟨by omega, by omega⟩) <| sv (yMove rfl) <| nil ?_
    exact ⟨_, _, rfl, ⟨k + 1, _, _, h0, h4, h5, h12, h13, rfl, (by rw [take_snoc (show (losS l)[k]? = some (spn l k).lo by simp [losS, spn_get hkl]), take_snoc (show (hisS l)[k]? = some (spn l k).hi by simp [hisS, spn_get hkl]), List.flatMap_append, List.flatMap_append]; first | exact hS.sub (.cons _ (.cons _ (.cons _ lrQ))) | exact (hS.sub (.cons _ (.cons _ (.cons _ lrQ)))).perm (List.Perm.swap _ _ _)), (by omega), rfl⟩, by omega⟩
  ·
   refine sbslice hS Tryz.underlying39 Tryz.sizeOf3 rfl Tryz.zeroValue3 rfl (.cons rfl rfl .nil) rfl ?_; clear hS; intro b28 w hS
   refine nil ⟨⟨fun _ _ => ⟨hS.at b4, hS.at b7⟩, fun _ _ => ⟨hS.at b5, hS.at b7⟩⟩, mw ?_⟩
   refine m1 4 (by kernel_rfl) rfl ?_
   refine sbslice hS Tryz.underlying39 Tryz.sizeOf3 rfl Tryz.zeroValue3 rfl (.cons rfl rfl .nil) rfl ?_; clear hS; intro b22 w hS
   refine nil ⟨⟨fun _ _ => ⟨hS.at b4, hS.at b7⟩, fun _ _ => ⟨hS.at b5, hS.at b7⟩⟩, mw ?_⟩
   refine m1 5 (by kernel_rfl) rfl ?_
   refine sapp (bytes := 8) (size := 1) (v := lv) (m := 1) hS rfl rfl Tryz.underlying39 ti3 rfl rfl rfl rfl (by decide) (blk_cells (hS.at _)) rfl rfl (by omega) (by omega) ?_; clear hS; intro v23 w hS
   refine nil ⟨⟨fun _ _ => ⟨hS.at b4, hS.at b7⟩, fun _ _ => ⟨hS.at b5, hS.at b7⟩⟩, mw ?_⟩
   refine mq 0 12 [] (by kernel_rfl) rfl trivial (fun w hS => (fa41_1 h4)) <| m1 11 (by kernel_rfl) rfl ?_
   refine sapp (bytes := 8) (size := 1) (v := hv) (m := 1) hS rfl rfl Tryz.underlying39 ti3 rfl rfl rfl rfl (by decide) (blk_cells (hS.at _)) rfl rfl (by omega) (by omega) ?_; clear hS; intro v29 w hS
   refine nil ⟨⟨fun _ _ => ⟨hS.at b4, hS.at b7⟩, fun _ _ => ⟨hS.at b5, hS.at b7⟩⟩, mw ?_⟩
   refine m1 13 (by kernel_rfl) rfl ?_
   obtain ⟨a23, c23, rfl⟩ := row_shape (hS.row v23)
   refine sst hS rfl rfl Tryz.sizeOf39 rfl rfl rfl rfl ?_; clear hS; intro w hS
   refine nil ⟨⟨fun h => absurd h (by decide), fun _ _ => ⟨hS.at b5, hS.at b7⟩⟩, mw ?_⟩
   refine mq 0 14 [] (by kernel_rfl) rfl trivial (fun w hS => (fa41_1 h5)) <| m1 15 (by kernel_rfl) rfl ?_
   have hS0 := hS
   obtain ⟨a29, c29, rfl⟩ := row_shape (hS.row v29)
   refine sst hS rfl rfl Tryz.sizeOf39 rfl rfl rfl rfl ?_; clear hS; intro w hS
   refine nil ⟨⟨fun _ h => ⟨(hS.at b4).trans ((hS0.at b4).symm.trans h.1), hS.at b7⟩, fun h => absurd h (by decide)⟩, mw ?_⟩
   refine me (by kernel_rfl) <| cwQ <| region <| sv (yAdd h14 rfl ⟨by omega, by omega⟩) <| sv (yMove rfl) <| nil ?_
   exact ⟨_, _, rfl, ⟨k + 1, _, _, h0, h4, h5, h12, h13, rfl, (by rw [take_snoc (show (losS l)[k]? = some (spn l k).lo by simp [losS, spn_get hkl]), take_snoc (show (hisS l)[k]? = some (spn l k).hi by simp [hisS, spn_get hkl]), List.flatMap_append, List.flatMap_append]; first | exact hS.sub (.cons _ (.cons _ (.cons _ lrQ))) | exact (hS.sub (.cons _ (.cons _ (.cons _ lrQ)))).perm (List.Perm.swap _ _ _)), (by omega), rfl⟩, by omega⟩
 ·
  simp only [BS, ne_eq] at c15
  obtain rfl : k = l.length := by omega
  rw [show (losS l).take l.length = losS l from List.take_of_length_le (by simp [losS]), show (hisS l).take l.length = hisS l from List.take_of_length_le (by simp [hisS])] at hS
  refine exit <| cwQ <| seq <| region_mix (fun w => w.heap[b4]? = some (.cells ([.int .i64 fr, lv] : List Value).toArray 41 (0, 0)) ∧ w.heap[b5]? = some (.cells ([.int .i64 fr, hv] : List Value).toArray 41 (0, 0))) 4 mixed hS ?_
  clear hS; intro w hS
  obtain ⟨alv, clv, rfl⟩ := row_shape (hS.row lv)
  obtain ⟨ahv, chv, rfl⟩ := row_shape (hS.row hv)
  refine f_step 0 (by kernel_rfl) rfl (fun c a a' w h => by obtain ⟨_, v, hv, _⟩ := h; cases hv) ⟨hS.at b4, hS.at b5⟩ (fun w hS => (yLdBA h4 Tryz.isAgg41 Tryz.sizeOf41 hS.1 rfl rfl)) ?_
  refine f_step 1 (by kernel_rfl) rfl (fun c a a' w h => by obtain ⟨_, v, hv, _⟩ := h; cases hv) ⟨hS.at b4, hS.at b5⟩ (fun w hS => (yLdBA h5 Tryz.isAgg41 Tryz.sizeOf41 hS.2 rfl rfl)) ?_
  refine awQ <| a1Q 2 (by kernel_rfl) rfl ?_
  refine sst hS h4 rfl Tryz.sizeOf41 rfl rfl rfl rfl ?_; clear hS; intro w hS
  refine nil ?_
  refine ⟨fun _ => ⟨hS.at b4, hS.at b5⟩, ?_⟩
  refine awQ <| awQ <| a1Q 3 (by kernel_rfl) rfl ?_
  refine sst hS h5 rfl Tryz.sizeOf41 rfl rfl rfl rfl ?_; clear hS; intro w hS
  refine nil ?_
  refine ⟨fun _ => ⟨hS.at b4, hS.at b5⟩, ?_⟩
  refine awQ <| a_end (by kernel_rfl) <| cwQ <| wp_ret <| retQ (resV2 rfl (rc h4 Tryz.isAgg41 Tryz.sizeOf41 (hS.at _) rfl rfl) (rc h5 Tryz.isAgg41 Tryz.sizeOf41 (hS.at _) rfl rfl)) ?_
  exact ⟨_, _, rfl, hS.sub (.cons_cons _ (.cons_cons _ (List.nil_sublist _)))⟩
theorem c_choices {bk nn : Nat} {c : List Int} {many : Int} {asv : Option Addr} {csv : Nat} {w0 : World} : CE Tryz.prog 118 #[.pointer (some ⟨bk, 0, none⟩), .agg (chC c).toArray, .int .i64 (c.length : Int), .int .i64 many, .slice asv nn csv] w0 (fun u w' => ∃ i5 i6 i7 i8 i9, u = .func (.func 168) #[] [.pointer (some ⟨i7, 0, none⟩), .pointer (some ⟨i5, 0, none⟩), .pointer (some ⟨i8, 0, none⟩), .pointer (some ⟨i6, 0, none⟩), .pointer (some ⟨i9, 0, none⟩)].toArray ∧ St w0 w' [blk i9 [.slice asv nn csv] 121, blk i8 [.int .i64 many] 3, blk i7 [.int .i64 (c.length : Int)] 3, blk i6 (chC c) 113, blk i5 [.pointer (some ⟨bk, 0, none⟩)] 107]) := by
 refine enter Tryz.func118 rfl Tryz.ntmps118 rfl ?_
 have hS := St.start w0
 refine seq <| region ?_
 refine sbox hS rfl rfl ?_; clear hS; intro b5 w hS
 refine sbox hS rfl rfl ?_; clear hS; intro b6 w hS
 refine sbox hS rfl rfl ?_; clear hS; intro b7 w hS
 refine sbox hS rfl rfl ?_; clear hS; intro b8 w hS
 refine sbox hS rfl rfl ?_; clear hS; intro b9 w hS
 refine sv (yAsg rfl) <| nil <| cwQ <| seq <| region <| sv (yFn (.cons rfl (.cons rfl (.cons rfl (.cons rfl (.cons rfl .nil)))))) <| sv (yAsg rfl) <| nil <| cwQ ?_
 refine wp_ret <| retQ (res1 rfl rfl) ?_
 exact ⟨b5, b6, b7, b8, b9, rfl, hS⟩
end Go.Proofs.YtgidbailiababaaGreatDoor

/- part S13 -/
namespace Bx
open Go Go.RowKit
section
variable {P : Program} {ops : Array Oper} {Q : Exit → Act → World → Prop} {rest : List Oper} {n d : Nat} {f : Fr} {ds : List Deferred} {w : World} {r : Option Nat} {ty : TypeId} {pos : String} {af : Array Edge}
theorem yieldR {fx : Operand} {xs : List Operand} {ts : Array TypeId} {l : Nat} {vs : List Value} {R : Value → World → Prop} (hf : ev n f fx = .func (.yield l) #[] #[]) (ha : Evs (ev n f) xs vs) (hy : YieldIn P l vs w R)
    (h : ∀ v w', R v w' → wpListIn (FX r) 0 P ops Q rest (mkd n (upd f d v) ds) w') : wpListIn (FX r) 0 P ops Q (⟨some d, .call ⟨.value fx, xs.toArray, ts⟩, ty, pos, af, none⟩ :: rest) (mkd n f ds) w := by
  unfold wpListIn
  rw [if_pos (by simp [Region.wanted])]
  obtain ⟨fn, tmps, assign, body, hr, hR⟩ := hy
  refine ⟨fun _ _ => trivial, ?_⟩
  rw [Oper.semAt_plain (FX r) _ _ (noDefer_spec rfl), wD_eval, mk_eval, execOp_xop, yield_run hf ha hr, Oper.uponIn_round]
  refine ⟨fun h => (by cases h), ?_⟩
  have hR2 : RoundIn (FX r) (0 - 1) P l fn tmps assign body w fun e w' => ∃ v, e = .returned v ∧ R v w' := hR
  refine RoundIn.mono hR2 ?_
  rintro e w' ⟨v, rfl, hv⟩
  show wpListIn (FX r) 0 P ops Q rest ((wD ds (mk n f)).put (some d) v) w'
  rw [wD_put, mk_put]
  exact h v w' hv
end
theorem chmark {w0 w : World} {D : Nat} {x : Item} {L : List Item} (h : StX [] w0 w (x :: obj D (.deferred (some [])) :: L)) : StX [] w0 w (packI (marks [D]) :: x :: L) := by
  have h1 : StX [] w0 w (obj D (.deferred (some [])) :: x :: L) := h.perm (List.Perm.swap _ _ _)
  have h2 : StX [] w0 w (obj D (.deferred (some [])) :: packI (marks []) :: x :: L) := h1.mark0.perm (List.Perm.swap _ _ _)
  exact h2.mark
theorem chmarks {w0 w : World} {D : Nat} {Ds : List Nat} {y : Item} {L : List Item} (h : StX [] w0 w (obj D (.deferred (some [])) :: y :: packI (marks Ds) :: L)) : StX [] w0 w (packI (marks (D :: Ds)) :: L) := by
  have h1 : StX [] w0 w (obj D (.deferred (some [])) :: packI (marks Ds) :: L) := h.sub (.cons_cons _ (.cons _ (List.Sublist.refl _)))
  exact h1.mark
section
variable {t : Sgt} {cs : List Int}
theorem ch_trace {n k : Nat} {c : List Int} {many : Int} {s : List Span} {f : Fct} {A B X : List ChX} {x : ChX} (hm : ¬ (cs.getD c.length (-1) < 0 ∨ many = 0)) (hf : f = fct t.fcs (cs.getD c.length (-1)).toNat) (hk : k < f.members.length)
    (hA : A.map (·.1) = chS t cs n (c ++ [-1]) many s) (hB : B.map (·.1) = chM t cs n c many s f k) (hX : (X ++ [x]).map (·.1) <+: chS t cs n (c ++ [(k : Int)]) (many - 1) (meetS s (tubeS t f (mem f k)))) :
    ((A ++ (B ++ X)) ++ [x]).map (·.1) <+: chS t cs (n + 1) c many s := by
  rw [List.append_assoc, List.append_assoc, List.map_append, List.map_append, hA, hB, ch_more hm, ← hf]
  refine (List.prefix_append_right_inj _).2 ?_
  refine List.IsPrefix.trans ?_ (chM_pre (k := f.members.length) (show k + 1 ≤ f.members.length by omega))
  rw [chM_succ]
  exact (List.prefix_append_right_inj _).2 hX
theorem ch_whole {n : Nat} {c : List Int} {many : Int} {s : List Span} {f : Fct} {A B : List ChX} (hm : ¬ (cs.getD c.length (-1) < 0 ∨ many = 0)) (hf : f = fct t.fcs (cs.getD c.length (-1)).toNat)
    (hA : A.map (·.1) = chS t cs n (c ++ [-1]) many s) (hB : B.map (·.1) = chM t cs n c many s f f.members.length) : (A ++ B).map (·.1) = chS t cs (n + 1) c many s := by
  rw [List.map_append, hA, hB, ch_more hm, ← hf]
end
end Bx

/- part Sw10 -/
namespace Go.Proofs.YtgidbailiababaaGreatDoor
open Go Bx
def ItCh (w0 : World) (t : Sgt) (now : Int) (cv ov : Value) (ag ak ae aw ax : Option Addr) (cg ck ce cw cx bk : Nat) (T : TypeId) (n : Nat) : Prop := ∀ (c : List Int) (many : Int) (sp : List Span) (asv : Option Addr) (csv i5 i6 i7 i8 i9 : Nat), c.length + n = t.ctrs.length → 0 ≤ many → many ≤ 4 → sp.length = t.ticks.toNat → LBd 40000000 sp → ItQ Tryz.prog 168 [.pointer (some ⟨i7, 0, none⟩), .pointer (some ⟨i5, 0, none⟩), .pointer (some ⟨i8, 0, none⟩), .pointer (some ⟨i6, 0, none⟩), .pointer (some ⟨i9, 0, none⟩)] w0 [blk i9 [.slice asv t.ticks.toNat csv] 121, blk i8 [.int .i64 many] 3, blk i7 [.int .i64 ((c).length : Int)] 3, blk i6 (chC (c)) 113, blk i5 [.pointer (some ⟨bk, 0, none⟩)] 107] encCh (RdC bk T [.int .i64 t.table.mean, cv, .slice ag t.gauges.length cg, .int .i64 t.wrong, .int .i64 t.frm, .int .i64 t.ticks, .slice ak t.ctrs.length ck, .slice ae t.fcs.length ce, .int .i64 t.least, .int .i64 t.most, .int .i64 t.rate, .int .i64 t.quorum, .int .i64 now, .slice aw t.ticks.toNat cw, .slice ax t.ctrs.length cx, ov] t now aw ax asv cw cx csv (sp)) (ChT (RdC bk T [.int .i64 t.table.mean, cv, .slice ag t.gauges.length cg, .int .i64 t.wrong, .int .i64 t.frm, .int .i64 t.ticks, .slice ak t.ctrs.length ck, .slice ae t.fcs.length ce, .int .i64 t.least, .int .i64 t.most, .int .i64 t.rate, .int .i64 t.quorum, .int .i64 now, .slice aw t.ticks.toNat cw, .slice ax t.ctrs.length cx, ov] t now aw ax asv cw cx csv (sp)) t.ticks.toNat (chS t (curS t now) n (c) (many) (sp))) (ChZ (chS t (curS t now) n (c) (many) (sp)))
set_option maxHeartbeats 8000000 in
theorem it_chstep {n : Nat} {t : Sgt} {now : Int} {cv ov : Value} {ag ak ae aw ax : Option Addr} {cg ck ce cw cx bk : Nat} {T : TypeId} {c : List Int} {many : Int} {sp : List Span} {asv : Option Addr} {csv i5 i6 i7 i8 i9 : Nat} {w0 : World} (h : RSgt w0 [.int .i64 t.table.mean, cv, .slice ag t.gauges.length cg, .int .i64 t.wrong, .int .i64 t.frm, .int .i64 t.ticks, .slice ak t.ctrs.length ck, .slice ae t.fcs.length ce, .int .i64 t.least, .int .i64 t.most, .int .i64 t.rate, .int .i64 t.quorum] t) (hok : SgOk t) (hnow : Bd now 0 200000) (hg : Glb w0) (IH : ∀ m, n = m + 1 → ItCh w0 t now cv ov ag ak ae aw ax cg ck ce cw cx bk T m) (hcn : c.length + n = t.ctrs.length) (hm0 : 0 ≤ many) (hm4 : many ≤ 4) (hsl : sp.length = t.ticks.toNat) (hsb : LBd 40000000 sp) : ItQ Tryz.prog 168 [.pointer (some ⟨i7, 0, none⟩), .pointer (some ⟨i5, 0, none⟩), .pointer (some ⟨i8, 0, none⟩), .pointer (some ⟨i6, 0, none⟩), .pointer (some ⟨i9, 0, none⟩)] w0 [blk i9 [.slice asv t.ticks.toNat csv] 121, blk i8 [.int .i64 many] 3, blk i7 [.int .i64 ((c).length : Int)] 3, blk i6 (chC (c)) 113, blk i5 [.pointer (some ⟨bk, 0, none⟩)] 107] encCh (RdC bk T [.int .i64 t.table.mean, cv, .slice ag t.gauges.length cg, .int .i64 t.wrong, .int .i64 t.frm, .int .i64 t.ticks, .slice ak t.ctrs.length ck, .slice ae t.fcs.length ce, .int .i64 t.least, .int .i64 t.most, .int .i64 t.rate, .int .i64 t.quorum, .int .i64 now, .slice aw t.ticks.toNat cw, .slice ax t.ctrs.length cx, ov] t now aw ax asv cw cx csv (sp)) (ChT (RdC bk T [.int .i64 t.table.mean, cv, .slice ag t.gauges.length cg, .int .i64 t.wrong, .int .i64 t.frm, .int .i64 t.ticks, .slice ak t.ctrs.length ck, .slice ae t.fcs.length ce, .int .i64 t.least, .int .i64 t.most, .int .i64 t.rate, .int .i64 t.quorum, .int .i64 now, .slice aw t.ticks.toNat cw, .slice ax t.ctrs.length cx, ov] t now aw ax asv cw cx csv (sp)) t.ticks.toNat (chS t (curS t now) n (c) (many) (sp))) (ChZ (chS t (curS t now) n (c) (many) (sp))) := by
 obtain ⟨hT, hG, hw64, hf64, hk64, hC, hF, hl64, hm64, hr64, hq64⟩ := RSgt.parts h
 have htk := hok.tk
 have hnc := hok.nc
 have hc4 : c.length ≤ 4 := by omega
 intro yl Cb w L hRd hY h0 hS
 replace hS : StX [] w0 w (blk i9 [.slice asv t.ticks.toNat csv] 121 :: blk i8 [.int .i64 many] 3 :: blk i7 [.int .i64 (c.length : Int)] 3 :: blk i6 (chC c) 113 :: blk i5 [.pointer (some ⟨bk, 0, none⟩)] 107 :: L) := hS
 refine enterX Tryz.func168 rfl Tryz.ntmps168 rfl ?_
 skip
 refine seqX <| regionX rfl ?_
 refine sbox hS rfl rfl ?_; clear hS; intro b6 w hS
 refine nil ?_
 show Code.wpIn _ _ _ _ _ _ _
 refine seqX <| seqX <| region_drawX mixed (by kernel_rfl) rfl hS ?_
 have hcb := h0
 have rd : ∀ w, StX [] w0 w (blk b6 [.func (.yield yl) #[] #[]] 212 :: blk i9 [.slice asv t.ticks.toNat csv] 121 :: blk i8 [.int .i64 many] 3 :: blk i7 [.int .i64 (c.length : Int)] 3 :: blk i6 (chC (c)) 113 :: blk i5 [.pointer (some ⟨bk, 0, none⟩)] 107 :: L) → RdC bk T [.int .i64 t.table.mean, cv, .slice ag t.gauges.length cg, .int .i64 t.wrong, .int .i64 t.frm, .int .i64 t.ticks, .slice ak t.ctrs.length ck, .slice ae t.fcs.length ce, .int .i64 t.least, .int .i64 t.most, .int .i64 t.rate, .int .i64 t.quorum, .int .i64 now, .slice aw t.ticks.toNat cw, .slice ax t.ctrs.length cx, ov] t now aw ax asv cw cx csv (sp) w := fun w hS => hRd _ w L [blk b6 [.func (.yield yl) #[] #[]] 212, blk i9 [.slice asv t.ticks.toNat csv] 121, blk i8 [.int .i64 many] 3, blk i7 [.int .i64 (c.length : Int)] 3, blk i6 (chC (c)) 113, blk i5 [.pointer (some ⟨bk, 0, none⟩)] 107] hcb hS
 refine qv (fun w hS => (yLdB rfl Tryz.isAgg3 (hS.at _) rfl)) <| qv (fun w hS => (yLdB rfl Tryz.isAgg107 (hS.at _) rfl)) <| qv (fun w hS => (yNil rfl)) <| qv (fun w hS => (fa123_3 rfl)) <| qv (fun w hS => (yLdB rfl Tryz.isAgg39 (rd w hS).1 rfl)) <| qv (fun w hS => (yLen rfl Tryz.underlying39)) <| qv (fun w hS => (yEql rfl rfl)) ?_
 clear hS; refine qnil (fun w hS => ?_)
 show Code.wpIn _ _ _ _ _ _ _
 refine condX rfl (fun c20 => ?_) (fun c20 => ?_)
 ·
  simp only [BS, ne_eq] at c20
  obtain rfl : n = 0 := by omega
  refine seqX <| seqX <| regionX rfl <| sv (yLdB rfl Tryz.isAgg3 (hS.at _) rfl) <| sv (yEql rfl rfl) <| nil ?_
  show Code.wpIn _ _ _ _ _ _ _
  refine condX rfl (fun c22 => ?_) (fun c22 => ?_)
  ·
   simp only [BS, ne_eq] at c22
   have hcz : many = 0 := by omega
   refine regionL <| preX 3 rfl <| sv (yLdB rfl Tryz.isAgg212 (hS.at _) rfl) <| sv (yLdBA rfl Tryz.isAgg113 Tryz.sizeOf113 (hS.at _) rfl rfl) <| sv (yLdB rfl Tryz.isAgg121 (hS.at _) rfl) <| nil ?_
   show wpListIn _ _ _ _ _ _ _ _
   refine yieldU rfl (.cons rfl (.cons rfl .nil)) (hY [] ((c, sp), .slice asv t.ticks.toNat csv) w L [blk b6 [.func (.yield yl) #[] #[]] 212, blk i9 [.slice asv t.ticks.toNat csv] 121, blk i8 [.int .i64 many] 3, blk i7 [.int .i64 (c.length : Int)] 3, blk i6 (chC (c)) 113, blk i5 [.pointer (some ⟨bk, 0, none⟩)] 107] (ChT.mk (by simp [ch_zero, hcz]) ⟨_, _, rfl⟩ (fun w hw hr => hr.2.2.2)) h0 hS) ?_
   clear hS hcb rd; rintro _ w ⟨bq, L, rfl, hcb, hS⟩
   refine endX rfl <| nil ?_
   show Code.wpIn _ _ _ _ _ _ _
   refine wpIn_ret (thenR ?_)
   refine leafX (results_none rfl _ _ _) ?_
   refine ⟨L, hS.sub (.cons _ (.cons _ (.cons _ (.cons _ (.cons _ (.cons _ lrQ)))))), ?_⟩
   cases bq with
   | true => exact .inl ⟨_, by simp [ChZ, ch_zero, hcz], hcb⟩
   | false => exact .inr ⟨_, hcb⟩
  ·
   simp only [BS, ne_eq] at c22
   have hcz : ¬ many = 0 := by omega
   refine skipX ?_
   show Code.wpIn _ _ _ _ _ _ _
   refine wpIn_ret (thenR ?_)
   refine leafX (results_none rfl _ _ _) ?_
   exact ⟨L, hS.sub (.cons _ (.cons _ (.cons _ (.cons _ (.cons _ (.cons _ lrQ)))))), .inl ⟨[], by simp [ChZ, ch_zero, hcz], h0⟩⟩
 ·
  simp only [BS, ne_eq] at c20
  obtain ⟨m, rfl⟩ : ∃ m, n = m + 1 := ⟨n - 1, by omega⟩
  have hcl : c.length < t.ctrs.length := by omega
  refine skipX ?_
  show Code.wpIn _ _ _ _ _ _ _
  refine seqX <| regionX rfl <| sv (yLdB rfl Tryz.isAgg3 (hS.at _) rfl) <| sv (Y.to (yIxA rfl rfl Tryz.runUnderlying113 Tryz.sizeOf3 (by omega) (by omega)) (congrArg (fun q => Value.pointer (some ⟨i6, q, none⟩)) (show 0 + ((c.length : Nat) : Int).toNat * 1 = c.length by omega))) ?_
  refine sst (vs := [.int .i64 (-1)]) hS rfl rfl Tryz.sizeOf3 rfl rfl (by rw [Nat.ble_eq]; show c.length + 1 ≤ 4; omega) rfl ?_; clear hS; intro w hS; rw [chC_set (-1) c (by omega)] at hS
  refine nil ?_
  show Code.wpIn _ _ _ _ _ _ _
  refine seqX <| seqX <| regionX rfl <| sv (yLdB rfl Tryz.isAgg107 (hS.at _) rfl) <| sv (yLdBA rfl Tryz.isAgg113 Tryz.sizeOf113 (hS.at _) rfl rfl) <| sv (yLdB rfl Tryz.isAgg3 (hS.at _) rfl) <| sv (Y.to (yAdd rfl rfl ⟨by omega, by omega⟩) (congrArg (Value.int .i64) (show (c.length : Int) + 1 = (((c ++ [-1]).length : Nat) : Int) by simp))) <| sv (yLdB rfl Tryz.isAgg3 (hS.at _) rfl) <| sv (yLdB rfl Tryz.isAgg121 (hS.at _) rfl) ?_
  refine scall Tryz.call118 (.cons rfl (.cons rfl (.cons rfl (.cons rfl (.cons rfl .nil))))) (c_choices (c := c ++ [-1]) (nn := t.ticks.toNat)) ?_
  rintro _ w ⟨j5, j6, j7, j8, j9, rfl, hM⟩; replace hS := hS.call hM; clear hM
  refine nil ?_
  show Code.wpIn _ _ _ _ _ _ _
  refine blockX ?_
  refine rangeQ (R := [blk j9 [.slice asv t.ticks.toNat csv] 121, blk j8 [.int .i64 many] 3, blk j7 [.int .i64 ((c ++ [-1]).length : Int)] 3, blk j6 (chC (c ++ [-1])) 113, blk j5 [.pointer (some ⟨bk, 0, none⟩)] 107]) (L0 := blk b6 [.func (.yield yl) #[] #[]] 212 :: blk i9 [.slice asv t.ticks.toNat csv] 121 :: blk i8 [.int .i64 many] 3 :: blk i7 [.int .i64 (c.length : Int)] 3 :: blk i6 (chC (c ++ [-1])) 113 :: blk i5 [.pointer (some ⟨bk, 0, none⟩)] 107 :: L) (ps := [36, 37]) rfl Tryz.call168 hS (IH m rfl (c ++ [-1]) many sp asv csv j5 j6 j7 j8 j9 (by simp; omega) (by omega) (by omega) hsl hsb) (fun cc pre L => (cc = none ∧ ∃ L2, L = blk b6 [.func (.yield yl) #[] #[]] 212 :: blk i9 [.slice asv t.ticks.toNat csv] 121 :: blk i8 [.int .i64 many] 3 :: blk i7 [.int .i64 (c.length : Int)] 3 :: blk i6 (chC (c ++ [-1])) 113 :: blk i5 [.pointer (some ⟨bk, 0, none⟩)] 107 :: L2 ∧ Cb true pre L2) ∨ (cc = some .ret ∧ ∃ L2, L = blk b6 [.func (.yield yl) #[] #[]] 212 :: blk i9 [.slice asv t.ticks.toNat csv] 121 :: blk i8 [.int .i64 many] 3 :: blk i7 [.int .i64 (c.length : Int)] 3 :: blk i6 (chC (c ++ [-1])) 113 :: blk i5 [.pointer (some ⟨bk, 0, none⟩)] 107 :: L2 ∧ Cb false pre L2)) (.inl ⟨rfl, L, rfl, h0⟩) (fun _ => rfl) (fun pre w L M hcb2 hS => by
   obtain ⟨-, L2, rfl, hcb3⟩ := hcb2.resolve_right (fun h => by cases h.1)
   exact hRd _ w L2 [blk b6 [.func (.yield yl) #[] #[]] 212, blk i9 [.slice asv t.ticks.toNat csv] 121, blk i8 [.int .i64 many] 3, blk i7 [.int .i64 (c.length : Int)] 3, blk i6 (chC (c ++ [-1])) 113, blk i5 [.pointer (some ⟨bk, 0, none⟩)] 107] hcb3 (hS.sub (List.sublist_append_left _ M))) ?_ ?_ ?_
  ·
   clear hS
   intro yl2 pre x w L M M0 hT hsub hcb2 hS
   obtain ⟨-, L2, rfl, hcb⟩ := hcb2.resolve_right (fun h => by cases h.1)
   obtain ⟨hTp, hTs, hTl⟩ := hT.last
   obtain ⟨⟨xc, xs2⟩, xv⟩ := x
   obtain ⟨axv, cxv, hxv⟩ := hTs
   obtain rfl : xv = _ := hxv
   replace hS : StX [] w0 w (blk b6 [.func (.yield yl) #[] #[]] 212 :: blk i9 [.slice asv t.ticks.toNat csv] 121 :: blk i8 [.int .i64 many] 3 :: blk i7 [.int .i64 (c.length : Int)] 3 :: blk i6 (chC (c ++ [-1])) 113 :: blk i5 [.pointer (some ⟨bk, 0, none⟩)] 107 :: (L2 ++ M)) := hS
   refine seqX <| regionX rfl ?_
   refine salloc hS Tryz.zeroValue113 rfl ?_; clear hS; intro b7 w hS
   refine sst hS rfl rfl Tryz.sizeOf113 rfl rfl rfl rfl ?_; clear hS; intro w hS
   refine nil ?_
   show Code.wpIn _ _ _ _ _ _ _
   refine regionX rfl <| sv (yAsg rfl) <| nil ?_
   refine ⟨_, blk b7 (chC xc) 113 :: blk b6 [.func (.yield yl) #[] #[]] 212 :: blk i9 [.slice asv t.ticks.toNat csv] 121 :: blk i8 [.int .i64 many] 3 :: blk i7 [.int .i64 (c.length : Int)] 3 :: blk i6 (chC (c ++ [-1])) 113 :: blk i5 [.pointer (some ⟨bk, 0, none⟩)] 107 :: L2, rfl, hS, ?_⟩
   clear hS hsub; clear M; intro M w hsub hS; replace hS : StX [] w0 w (blk b7 (chC xc) 113 :: blk b6 [.func (.yield yl) #[] #[]] 212 :: blk i9 [.slice asv t.ticks.toNat csv] 121 :: blk i8 [.int .i64 many] 3 :: blk i7 [.int .i64 (c.length : Int)] 3 :: blk i6 (chC (c ++ [-1])) 113 :: blk i5 [.pointer (some ⟨bk, 0, none⟩)] 107 :: (L2 ++ M)) := hS
   refine blockX <| seqX <| regionL <| preX 3 rfl <| sv (yLdB rfl Tryz.isAgg212 (hS.at _) rfl) <| sv (yLdBA rfl Tryz.isAgg113 Tryz.sizeOf113 (hS.at _) rfl rfl) <| sv (yMove rfl) <| nil ?_
   show wpListIn _ _ _ _ _ _ _ _
   replace hS := hS.perm (perm_mid [blk b7 (chC xc) 113, blk b6 [.func (.yield yl) #[] #[]] 212, blk i9 [.slice asv t.ticks.toNat csv] 121, blk i8 [.int .i64 many] 3, blk i7 [.int .i64 (c.length : Int)] 3, blk i6 (chC (c ++ [-1])) 113, blk i5 [.pointer (some ⟨bk, 0, none⟩)] 107] L2 M)
   refine yieldR rfl (.cons rfl (.cons rfl .nil)) (hY (pre) ((xc, xs2), .slice axv t.ticks.toNat cxv) _ L2 ([blk b7 (chC xc) 113, blk b6 [.func (.yield yl) #[] #[]] 212, blk i9 [.slice asv t.ticks.toNat csv] 121, blk i8 [.int .i64 many] 3, blk i7 [.int .i64 (c.length : Int)] 3, blk i6 (chC (c ++ [-1])) 113, blk i5 [.pointer (some ⟨bk, 0, none⟩)] 107] ++ M) (ChT.mk (by exact hTp.trans ch_first) ⟨_, _, rfl⟩ (fun w hw hr => hTl w (fun it hit => hw it (List.mem_append_right _ (hsub it hit))) hr)) hcb hS) ?_
   clear hS hcb; rintro _ w ⟨bq, L3, rfl, hcb, hS⟩
   replace hS : StX [] w0 w (blk b7 (chC xc) 113 :: blk b6 [.func (.yield yl) #[] #[]] 212 :: blk i9 [.slice asv t.ticks.toNat csv] 121 :: blk i8 [.int .i64 many] 3 :: blk i7 [.int .i64 (c.length : Int)] 3 :: blk i6 (chC (c ++ [-1])) 113 :: blk i5 [.pointer (some ⟨bk, 0, none⟩)] 107 :: (L3 ++ M)) := hS.perm (perm_mid [blk b7 (chC xc) 113, blk b6 [.func (.yield yl) #[] #[]] 212, blk i9 [.slice asv t.ticks.toNat csv] 121, blk i8 [.int .i64 many] 3, blk i7 [.int .i64 (c.length : Int)] 3, blk i6 (chC (c ++ [-1])) 113, blk i5 [.pointer (some ⟨bk, 0, none⟩)] 107] L3 M).symm
   refine endX rfl <| sv (yNot rfl) <| nil ?_
   show Code.wpIn _ _ _ _ _ _ _
   refine condX rfl (fun c42 => ?_) (fun c42 => ?_)
   ·
    obtain rfl : bq = false := by cases bq; rfl; cases c42
    refine wpIn_ret (blockR ?_)
    exact ⟨_, (.inr ⟨rfl, L3, rfl, hcb⟩), hS.sub (.cons _ lrQ)⟩
   ·
    obtain rfl : bq = true := by cases bq; cases c42; rfl
    refine skipX ?_
    exact ⟨_, (.inl ⟨rfl, L3, rfl, hcb⟩), (hS.sub (.cons _ lrQ))⟩
  ·
   clear hS
   intro D w L xs hZ hcb hS
   have hcb0 := hcb.resolve_right (fun h => by cases h.1)
   clear hcb h0
   obtain ⟨-, L2, rfl, hcb⟩ := hcb0
   replace hS : StX [] w0 w (obj D (.deferred (some [])) :: blk b6 [.func (.yield yl) #[] #[]] 212 :: blk i9 [.slice asv t.ticks.toNat csv] 121 :: blk i8 [.int .i64 many] 3 :: blk i7 [.int .i64 (c.length : Int)] 3 :: blk i6 (chC (c ++ [-1])) 113 :: blk i5 [.pointer (some ⟨bk, 0, none⟩)] 107 :: L2) := hS
   show Code.wpIn _ _ _ _ _ _ _
   refine seqX <| seqX <| region_drawX mixed (by kernel_rfl) rfl hS ?_
   have rd : ∀ w, StX [] w0 w (obj D (.deferred (some [])) :: blk b6 [.func (.yield yl) #[] #[]] 212 :: blk i9 [.slice asv t.ticks.toNat csv] 121 :: blk i8 [.int .i64 many] 3 :: blk i7 [.int .i64 (c.length : Int)] 3 :: blk i6 (chC (c ++ [-1])) 113 :: blk i5 [.pointer (some ⟨bk, 0, none⟩)] 107 :: L2) → RdC bk T [.int .i64 t.table.mean, cv, .slice ag t.gauges.length cg, .int .i64 t.wrong, .int .i64 t.frm, .int .i64 t.ticks, .slice ak t.ctrs.length ck, .slice ae t.fcs.length ce, .int .i64 t.least, .int .i64 t.most, .int .i64 t.rate, .int .i64 t.quorum, .int .i64 now, .slice aw t.ticks.toNat cw, .slice ax t.ctrs.length cx, ov] t now aw ax asv cw cx csv (sp) w := fun w hS => hRd _ w L2 [obj D (.deferred (some [])), blk b6 [.func (.yield yl) #[] #[]] 212, blk i9 [.slice asv t.ticks.toNat csv] 121, blk i8 [.int .i64 many] 3, blk i7 [.int .i64 (c.length : Int)] 3, blk i6 (chC (c ++ [-1])) 113, blk i5 [.pointer (some ⟨bk, 0, none⟩)] 107] hcb hS
   have hcx := curS_get t now hcl
   obtain ⟨bq, oq, cq, haq, -, -, -, -⟩ := sl_at (rd w hS).2.2.1 hcx
   subst haq
   have hz1 := hZ
   refine qv (fun w hS => (yLdB rfl Tryz.isAgg107 (hS.at _) rfl)) <| qv (fun w hS => (yNil rfl)) <| qv (fun w hS => (fa123_3 rfl)) <| qv (fun w hS => (yLdB rfl Tryz.isAgg39 (rd w hS).1 rfl)) <| qv (fun w hS => (yLdB rfl Tryz.isAgg3 (hS.at _) rfl)) <| qv (fun w hS => (yIxa rfl rfl rfl Tryz.runUnderlying39 Tryz.sizeOf3 (by omega) (by omega))) <| qv (fun w hS => (yLd rfl Tryz.isAgg3 (sl_cell (rd w hS).2.2.1 hcx))) <| qv (fun w hS => (yLss rfl rfl)) <| qv (fun w hS => (yMove rfl)) ?_
   refine qg rfl rfl rfl (fun g w hS => (yLdB rfl Tryz.isAgg3 (hS.at _) rfl)) (fun v52 g52 => ?_)
   refine qg rfl rfl rfl (fun g w hS => (yEql (g52.1 g) rfl)) (fun v53 g53 => ?_)
   refine qv (fun w hS => (yOr rfl rfl (fun hB => (g53.1 hB)))) ?_
   clear hS; refine qnil (fun w hS => ?_)
   show Code.wpIn _ _ _ _ _ _ _
   refine condX rfl (fun c54 => ?_) (fun c54 => ?_)
   ·
    simp only [BS, ne_eq] at c54
    have hskip : (curS t now).getD c.length (-1) < 0 ∨ many = 0 := by rw [cur_at hcl]; exact c54
    refine wpIn_ret (thenR ?_)
    refine leafD hS (fun w hS => (results_none rfl _ _ _)) (fun w hS => ?_)
    exact ⟨L2, hS.sub (.cons _ (.cons _ (.cons _ (.cons _ (.cons _ (.cons _ (.cons _ lrQ))))))), .inl ⟨_, by unfold ChZ at *; rw [ch_skip hskip]; exact hz1, hcb⟩⟩
   ·
    simp only [BS, ne_eq] at c54
    have hmore : ¬ ((curS t now).getD c.length (-1) < 0 ∨ many = 0) := by rw [cur_at hcl]; omega
    obtain ⟨hcf, hfo⟩ := cur_fct (now := now) (i := c.length) hok (by omega)
    obtain ⟨bf, of, csf, haf, -, hcf2, hRf, -⟩ := sl_at hF (fct_get hcf)
    obtain ⟨mv, rfl, hf1, hf2, hf3, hMm⟩ := id hRf
    obtain ⟨am, cm, rfl, hmcap, hmmx, -⟩ := id hMm
    have hnm := hfo.nm
    refine skipX ?_
    show Code.wpIn _ _ _ _ _ _ _
    refine seqX <| region_anyX (C := (fun w => StX [] w0 w (obj D (.deferred (some [])) :: blk b6 [.func (.yield yl) #[] #[]] 212 :: blk i9 [.slice asv t.ticks.toNat csv] 121 :: blk i8 [.int .i64 many] 3 :: blk i7 [.int .i64 (c.length : Int)] 3 :: blk i6 (chC (c ++ [-1])) 113 :: blk i5 [.pointer (some ⟨bk, 0, none⟩)] 107 :: L2))) mixed 14 16 (by kernel_rfl) rfl hS (fun _ h => h) ?_
    clear hS; intro w hS
    refine hv (fun w hS => (yLdB rfl Tryz.isAgg107 (hS.at _) rfl)) <| hv (fun w hS => (yNil rfl)) <| hv (fun w hS => (fa123_0 rfl)) <| hv (fun w hS => (fa29_6 rfl)) <| hv (fun w hS => (yLdB rfl Tryz.isAgg27 (rd w hS).1 rfl)) <| hv (fun w hS => (yLdB rfl Tryz.isAgg107 (hS.at _) rfl)) <| hv (fun w hS => (yNil rfl)) <| hv (fun w hS => (fa123_3 rfl)) <| hv (fun w hS => (yLdB rfl Tryz.isAgg39 (rd w hS).1 rfl)) ?_
    refine hv (fun w hS => (yLdB rfl Tryz.isAgg3 (hS.at _) rfl)) <| hv (fun w hS => (yIxa rfl rfl rfl Tryz.runUnderlying39 Tryz.sizeOf3 (by omega) (by omega))) <| hv (fun w hS => (yLd rfl Tryz.isAgg3 (sl_cell (rd w hS).2.2.1 hcx))) <| hv (fun w hS => (yIxa rfl haf (rfl.trans (congrArg (Value.int .i64) (show curOf t now c.length = (((curOf t now c.length).toNat : Nat) : Int) by omega))) Tryz.runUnderlying27 Tryz.sizeOf61 (by omega) (by omega))) <| hv (fun w hS => (yLdA rfl Tryz.isAgg61 Tryz.sizeOf61 (hcf2.ext hS.ext) rfl)) <| hnil <| awQ <| a1Q 14 (by kernel_rfl) rfl ?_
    refine salloc hS Tryz.zeroValue61 rfl ?_; clear hS; intro b9 w hS
    refine nil ?_
    refine ⟨fun _ => hS.sub (.cons _ lrQ), ?_⟩
    refine awQ <| a1Q 15 (by kernel_rfl) rfl ?_
    refine sst hS rfl rfl Tryz.sizeOf61 rfl rfl rfl rfl ?_; clear hS; intro w hS
    refine nil ?_
    refine ⟨fun _ => hS.sub (.cons _ lrQ), ?_⟩
    refine awQ <| a_end (by kernel_rfl) ?_
    show Code.wpIn _ _ _ _ _ _ _
    refine seqX <| regionX rfl <| sv (fa61_3 rfl) <| sv (yLdB rfl Tryz.isAgg59 (hS.at _) rfl) <| sv (yLen rfl Tryz.underlying59) <| sv (yMove rfl) <| nil ?_
    show Code.wpIn _ _ _ _ _ _ _
    refine blockX ?_
    refine loopM (fun f ds w zz => ∃ (Ds : List Nat), ∃ (k : Nat) (v : Int) (prk : List ChX) (L : List Bx.Item), ds = Ds.map coll ∧ f 1 = .pointer (some ⟨i7, 0, none⟩) ∧ f 2 = .pointer (some ⟨i5, 0, none⟩) ∧ f 3 = .pointer (some ⟨i8, 0, none⟩) ∧ f 4 = .pointer (some ⟨i6, 0, none⟩) ∧ f 5 = .pointer (some ⟨i9, 0, none⟩) ∧ f 6 = .pointer (some ⟨b6, 0, none⟩) ∧ f 9 = .pointer (some ⟨b9, 0, none⟩) ∧ f 70 = .slice am (fct t.fcs (curOf t now c.length).toNat).members.length cm ∧ f 71 = .int .i64 ((fct t.fcs (curOf t now c.length).toNat).members.length : Int) ∧ f 72 = .int .i64 (k : Int) ∧ StX [] w0 w (packI (marks Ds) :: blk b9 [.int .i64 (fct t.fcs (curOf t now c.length).toNat).centre, .int .i64 (fct t.fcs (curOf t now c.length).toNat).issued, .int .i64 (fct t.fcs (curOf t now c.length).toNat).frm, .slice am (fct t.fcs (curOf t now c.length).toNat).members.length cm] 61 :: blk b6 [.func (.yield yl) #[] #[]] 212 :: blk i9 [.slice asv t.ticks.toNat csv] 121 :: blk i8 [.int .i64 many] 3 :: blk i7 [.int .i64 (c.length : Int)] 3 :: blk i6 (chC (c ++ [v])) 113 :: blk i5 [.pointer (some ⟨bk, 0, none⟩)] 107 :: L) ∧ (k ≤ (fct t.fcs (curOf t now c.length).toNat).members.length) ∧ (Cb true (xs ++ prk) L) ∧ (prk.map (·.1) = chM t (curS t now) m c many sp (fct t.fcs (curOf t now c.length).toNat) k) ∧ zz = (fct t.fcs (curOf t now c.length).toNat).members.length - k) _ ⟨_, _, rfl, [D], 0, -1, [], L2, rfl, rfl, rfl, rfl, rfl, rfl, rfl, rfl, rfl, rfl, rfl, (chmark hS), (Nat.zero_le _), (by rw [List.append_nil]; exact hcb), (rfl), rfl⟩ ?_
    clear hS
    rintro f _ w _ ⟨Ds, k, v, prk, L, rfl, h1, h2, h3, h4, h5, h6, h9, h70, h71, h72, hS, hk, hcb, hzk, rfl⟩
    clear rd
    have rd : ∀ w, StX [] w0 w (packI (marks Ds) :: blk b9 [.int .i64 (fct t.fcs (curOf t now c.length).toNat).centre, .int .i64 (fct t.fcs (curOf t now c.length).toNat).issued, .int .i64 (fct t.fcs (curOf t now c.length).toNat).frm, .slice am (fct t.fcs (curOf t now c.length).toNat).members.length cm] 61 :: blk b6 [.func (.yield yl) #[] #[]] 212 :: blk i9 [.slice asv t.ticks.toNat csv] 121 :: blk i8 [.int .i64 many] 3 :: blk i7 [.int .i64 (c.length : Int)] 3 :: blk i6 (chC (c ++ [v])) 113 :: blk i5 [.pointer (some ⟨bk, 0, none⟩)] 107 :: L) → RdC bk T [.int .i64 t.table.mean, cv, .slice ag t.gauges.length cg, .int .i64 t.wrong, .int .i64 t.frm, .int .i64 t.ticks, .slice ak t.ctrs.length ck, .slice ae t.fcs.length ce, .int .i64 t.least, .int .i64 t.most, .int .i64 t.rate, .int .i64 t.quorum, .int .i64 now, .slice aw t.ticks.toNat cw, .slice (some ⟨bq, oq, none⟩) t.ctrs.length cx, ov] t now aw (some ⟨bq, oq, none⟩) asv cw cx csv (sp) w := fun w hS => hRd _ w L [packI (marks Ds), blk b9 [.int .i64 (fct t.fcs (curOf t now c.length).toNat).centre, .int .i64 (fct t.fcs (curOf t now c.length).toNat).issued, .int .i64 (fct t.fcs (curOf t now c.length).toNat).frm, .slice am (fct t.fcs (curOf t now c.length).toNat).members.length cm] 61, blk b6 [.func (.yield yl) #[] #[]] 212, blk i9 [.slice asv t.ticks.toNat csv] 121, blk i8 [.int .i64 many] 3, blk i7 [.int .i64 (c.length : Int)] 3, blk i6 (chC (c ++ [v])) 113, blk i5 [.pointer (some ⟨bk, 0, none⟩)] 107] hcb hS
    refine seqX <| regionX rfl <| sv (yLss h72 h71) <| nil ?_
    show Code.wpIn _ _ _ _ _ _ _
    refine seqX ?_
    refine condX rfl (fun c73 => ?_) (fun c73 => ?_)
    ·
     simp only [BS, ne_eq] at c73
     have hkl : k < (fct t.fcs (curOf t now c.length).toNat).members.length := by omega
     refine skipX ?_
     show Code.wpIn _ _ _ _ _ _ _
     refine seqX <| blockX <| seqX <| regionX rfl <| sv (yMove h72) <| sv (yAsg rfl) <| nil ?_
     show Code.wpIn _ _ _ _ _ _ _
     refine seqX <| regionX rfl <| sv (yLdB h1 Tryz.isAgg3 (hS.at _) rfl) <| sv (yMove rfl) <| sv (Y.to (yIxA h4 rfl Tryz.runUnderlying113 Tryz.sizeOf3 (by omega) (by omega)) (congrArg (fun q => Value.pointer (some ⟨i6, q, none⟩)) (show 0 + ((c.length : Nat) : Int).toNat * 1 = c.length by omega))) ?_
     refine sst (vs := [.int .i64 (k : Int)]) hS rfl rfl Tryz.sizeOf3 rfl rfl (by rw [Nat.ble_eq]; show c.length + 1 ≤ 4; omega) rfl ?_; clear hS; intro w hS; rw [chC_set2 v (k : Int) c (by omega)] at hS
     clear rd
     have rd : ∀ w A, (∀ it ∈ A, True) → StX [] w0 w (A ++ (packI (marks Ds) :: blk b9 [.int .i64 (fct t.fcs (curOf t now c.length).toNat).centre, .int .i64 (fct t.fcs (curOf t now c.length).toNat).issued, .int .i64 (fct t.fcs (curOf t now c.length).toNat).frm, .slice am (fct t.fcs (curOf t now c.length).toNat).members.length cm] 61 :: blk b6 [.func (.yield yl) #[] #[]] 212 :: blk i9 [.slice asv t.ticks.toNat csv] 121 :: blk i8 [.int .i64 many] 3 :: blk i7 [.int .i64 (c.length : Int)] 3 :: blk i6 (chC (c ++ [(k : Int)])) 113 :: blk i5 [.pointer (some ⟨bk, 0, none⟩)] 107 :: L)) → RdC bk T [.int .i64 t.table.mean, cv, .slice ag t.gauges.length cg, .int .i64 t.wrong, .int .i64 t.frm, .int .i64 t.ticks, .slice ak t.ctrs.length ck, .slice ae t.fcs.length ce, .int .i64 t.least, .int .i64 t.most, .int .i64 t.rate, .int .i64 t.quorum, .int .i64 now, .slice aw t.ticks.toNat cw, .slice (some ⟨bq, oq, none⟩) t.ctrs.length cx, ov] t now aw (some ⟨bq, oq, none⟩) asv cw cx csv (sp) w := fun w A _ hS => hRd _ w L (A ++ [packI (marks Ds), blk b9 [.int .i64 (fct t.fcs (curOf t now c.length).toNat).centre, .int .i64 (fct t.fcs (curOf t now c.length).toNat).issued, .int .i64 (fct t.fcs (curOf t now c.length).toNat).frm, .slice am (fct t.fcs (curOf t now c.length).toNat).members.length cm] 61, blk b6 [.func (.yield yl) #[] #[]] 212, blk i9 [.slice asv t.ticks.toNat csv] 121, blk i8 [.int .i64 many] 3, blk i7 [.int .i64 (c.length : Int)] 3, blk i6 (chC (c ++ [(k : Int)])) 113, blk i5 [.pointer (some ⟨bk, 0, none⟩)] 107]) hcb (by rw [List.append_assoc]; exact hS)
     refine nil ?_
     show Code.wpIn _ _ _ _ _ _ _
     refine seqX <| regionX rfl <| sv (yLdB h5 Tryz.isAgg121 (hS.at _) rfl) ?_
     refine scall Tryz.call120 (.cons rfl .nil) (c_CloneS (rd w [] (fun _ h => nomatch h) hS).2.2.2 hsl (by omega)) ?_
     rintro lv w hM; replace hS := hS.call1 hM; clear hM
     obtain ⟨gl, cl, rfl, -⟩ := row_some (hS.row lv) (by omega)
     refine sv (yAsg rfl) <| nil ?_
     show Code.wpIn _ _ _ _ _ _ _
     refine seqX <| regionX rfl <| sv (yMove rfl) <| sv (yLdB h2 Tryz.isAgg107 (hS.at _) rfl) <| sv (yLdBA h9 Tryz.isAgg61 Tryz.sizeOf61 (hS.at _) rfl rfl) <| sv (yMove rfl) ?_
     refine scall Tryz.call83 (.cons rfl (.cons rfl (.cons rfl .nil))) (c_tubeS ((rd w [_] (fun _ _ => trivial) hS).kn (RTable.stays _ _ _ _ hS.ext hT) (hG.ext RGauge.stays hS.ext) (hC.ext RCtr.stays hS.ext) (hF.ext RFct.stays hS.ext)) hok (hg.ext hS.ext) hfo hkl (hMm.ext RRow.stays hS.ext)) ?_
     rintro tv w hM; replace hS := hS.call1 hM; clear hM
     have htl := tubeS_lbd hok hfo hkl
     refine scall Tryz.call82 (.cons rfl (.cons rfl .nil)) (c_meetS (o := 0) (ss := sp) (os := tubeS t (fct t.fcs (curOf t now c.length).toNat) (mem (fct t.fcs (curOf t now c.length).toNat) k)) (hS.perm (List.Perm.swap _ _ _)) (fun q w2 h2 => sl_spans (h2.row tv) (tubeS_len ..) (lbd_i64 htl)) (by rw [tubeS_len]; exact Nat.le_refl _) hsl (by omega) (by omega)) ?_
     rintro _ w ⟨-, hM⟩; clear hS; have hS := hM; clear hM
     rw [meetK_all (by rw [hsl, tubeS_len])] at hS
     replace hS := hS.sub (.cons_cons _ (.cons _ lrQ))
     have hll : (meetS sp (tubeS t (fct t.fcs (curOf t now c.length).toNat) (mem (fct t.fcs (curOf t now c.length).toNat) k))).length = t.ticks.toNat := by rw [meetS_len (by rw [hsl, tubeS_len])]; exact hsl
     have hlb : LBd 40000000 (meetS sp (tubeS t (fct t.fcs (curOf t now c.length).toNat) (mem (fct t.fcs (curOf t now c.length).toNat) k))) := meet_sbd (by rw [hsl, tubeS_len]) hsb htl
     refine nil ?_
     show Code.wpIn _ _ _ _ _ _ _
     refine seqX <| regionX rfl <| sv (yLdB h2 Tryz.isAgg107 (hS.at _) rfl) <| sv (yLdBA h4 Tryz.isAgg113 Tryz.sizeOf113 (hS.at _) rfl rfl) <| sv (yLdB h1 Tryz.isAgg3 (hS.at _) rfl) <| sv (Y.to (yAdd rfl rfl ⟨by omega, by omega⟩) (congrArg (Value.int .i64) (show (c.length : Int) + 1 = (((c ++ [(k : Int)]).length : Nat) : Int) by simp))) <| sv (yLdB h3 Tryz.isAgg3 (hS.at _) rfl) <| sv (ySub rfl rfl ⟨by omega, by omega⟩) <| sv (yMove rfl) ?_
     refine scall Tryz.call118 (.cons rfl (.cons rfl (.cons rfl (.cons rfl (.cons rfl .nil))))) (c_choices (c := c ++ [(k : Int)]) (nn := t.ticks.toNat)) ?_
     rintro _ w ⟨j5, j6, j7, j8, j9, rfl, hM⟩; replace hS := hS.call hM; clear hM
     refine nil ?_
     show Code.wpIn _ _ _ _ _ _ _
     refine blockX ?_
     refine rangeQ (R := [blk j9 [.slice (some ⟨gl, 0, none⟩) t.ticks.toNat cl] 121, blk j8 [.int .i64 (many - 1)] 3, blk j7 [.int .i64 ((c ++ [(k : Int)]).length : Int)] 3, blk j6 (chC (c ++ [(k : Int)])) 113, blk j5 [.pointer (some ⟨bk, 0, none⟩)] 107]) (L0 := rowI (.slice (some ⟨gl, 0, none⟩) t.ticks.toNat cl) 74 2 t.ticks.toNat ((meetS sp (tubeS t (fct t.fcs (curOf t now c.length).toNat) (mem (fct t.fcs (curOf t now c.length).toNat) k))).flatMap spanC) :: packI (marks Ds) :: blk b9 [.int .i64 (fct t.fcs (curOf t now c.length).toNat).centre, .int .i64 (fct t.fcs (curOf t now c.length).toNat).issued, .int .i64 (fct t.fcs (curOf t now c.length).toNat).frm, .slice am (fct t.fcs (curOf t now c.length).toNat).members.length cm] 61 :: blk b6 [.func (.yield yl) #[] #[]] 212 :: blk i9 [.slice asv t.ticks.toNat csv] 121 :: blk i8 [.int .i64 many] 3 :: blk i7 [.int .i64 (c.length : Int)] 3 :: blk i6 (chC (c ++ [(k : Int)])) 113 :: blk i5 [.pointer (some ⟨bk, 0, none⟩)] 107 :: L) (ps := [94, 95]) rfl Tryz.call168 hS (IH m rfl (c ++ [(k : Int)]) (many - 1) (meetS sp (tubeS t (fct t.fcs (curOf t now c.length).toNat) (mem (fct t.fcs (curOf t now c.length).toNat) k))) (some ⟨gl, 0, none⟩) cl j5 j6 j7 j8 j9 (by simp; omega) (by omega) (by omega) hll hlb) (fun cc pre L => (cc = none ∧ ∃ L2, L = rowI (.slice (some ⟨gl, 0, none⟩) t.ticks.toNat cl) 74 2 t.ticks.toNat ((meetS sp (tubeS t (fct t.fcs (curOf t now c.length).toNat) (mem (fct t.fcs (curOf t now c.length).toNat) k))).flatMap spanC) :: packI (marks Ds) :: blk b9 [.int .i64 (fct t.fcs (curOf t now c.length).toNat).centre, .int .i64 (fct t.fcs (curOf t now c.length).toNat).issued, .int .i64 (fct t.fcs (curOf t now c.length).toNat).frm, .slice am (fct t.fcs (curOf t now c.length).toNat).members.length cm] 61 :: blk b6 [.func (.yield yl) #[] #[]] 212 :: blk i9 [.slice asv t.ticks.toNat csv] 121 :: blk i8 [.int .i64 many] 3 :: blk i7 [.int .i64 (c.length : Int)] 3 :: blk i6 (chC (c ++ [(k : Int)])) 113 :: blk i5 [.pointer (some ⟨bk, 0, none⟩)] 107 :: L2 ∧ Cb true (xs ++ (prk ++ pre)) L2) ∨ (cc = some .ret ∧ ∃ L2, L = rowI (.slice (some ⟨gl, 0, none⟩) t.ticks.toNat cl) 74 2 t.ticks.toNat ((meetS sp (tubeS t (fct t.fcs (curOf t now c.length).toNat) (mem (fct t.fcs (curOf t now c.length).toNat) k))).flatMap spanC) :: packI (marks Ds) :: blk b9 [.int .i64 (fct t.fcs (curOf t now c.length).toNat).centre, .int .i64 (fct t.fcs (curOf t now c.length).toNat).issued, .int .i64 (fct t.fcs (curOf t now c.length).toNat).frm, .slice am (fct t.fcs (curOf t now c.length).toNat).members.length cm] 61 :: blk b6 [.func (.yield yl) #[] #[]] 212 :: blk i9 [.slice asv t.ticks.toNat csv] 121 :: blk i8 [.int .i64 many] 3 :: blk i7 [.int .i64 (c.length : Int)] 3 :: blk i6 (chC (c ++ [(k : Int)])) 113 :: blk i5 [.pointer (some ⟨bk, 0, none⟩)] 107 :: L2 ∧ Cb false (xs ++ (prk ++ pre)) L2)) (.inl ⟨rfl, L, rfl, by rw [List.append_nil]; exact hcb⟩) (fun _ => rfl) (fun pre w L M hcb2 hS => by
      obtain ⟨-, L2, rfl, hcb3⟩ := hcb2.resolve_right (fun h => by cases h.1)
      have hr := hRd _ w L2 [rowI (.slice (some ⟨gl, 0, none⟩) t.ticks.toNat cl) 74 2 t.ticks.toNat ((meetS sp (tubeS t (fct t.fcs (curOf t now c.length).toNat) (mem (fct t.fcs (curOf t now c.length).toNat) k))).flatMap spanC), packI (marks Ds), blk b9 [.int .i64 (fct t.fcs (curOf t now c.length).toNat).centre, .int .i64 (fct t.fcs (curOf t now c.length).toNat).issued, .int .i64 (fct t.fcs (curOf t now c.length).toNat).frm, .slice am (fct t.fcs (curOf t now c.length).toNat).members.length cm] 61, blk b6 [.func (.yield yl) #[] #[]] 212, blk i9 [.slice asv t.ticks.toNat csv] 121, blk i8 [.int .i64 many] 3, blk i7 [.int .i64 (c.length : Int)] 3, blk i6 (chC (c ++ [(k : Int)])) 113, blk i5 [.pointer (some ⟨bk, 0, none⟩)] 107] hcb3 (hS.sub (List.sublist_append_left _ M))
      exact ⟨hr.1, hr.2.1, hr.2.2.1, sl_spans ((hS.sub (List.sublist_append_left _ M)).row (.slice (some ⟨gl, 0, none⟩) t.ticks.toNat cl)) hll (lbd_i64 hlb)⟩) ?_ ?_ ?_
     ·
      clear hS
      intro yl2 pre x w L M M0 hT hsub hcb2 hS
      obtain ⟨-, L2, rfl, hcb⟩ := hcb2.resolve_right (fun h => by cases h.1)
      obtain ⟨hTp, hTs, hTl⟩ := hT.last
      obtain ⟨⟨xc, xs2⟩, xv⟩ := x
      obtain ⟨axv, cxv, hxv⟩ := hTs
      obtain rfl : xv = _ := hxv
      replace hS : StX [] w0 w (rowI (.slice (some ⟨gl, 0, none⟩) t.ticks.toNat cl) 74 2 t.ticks.toNat ((meetS sp (tubeS t (fct t.fcs (curOf t now c.length).toNat) (mem (fct t.fcs (curOf t now c.length).toNat) k))).flatMap spanC) :: packI (marks Ds) :: blk b9 [.int .i64 (fct t.fcs (curOf t now c.length).toNat).centre, .int .i64 (fct t.fcs (curOf t now c.length).toNat).issued, .int .i64 (fct t.fcs (curOf t now c.length).toNat).frm, .slice am (fct t.fcs (curOf t now c.length).toNat).members.length cm] 61 :: blk b6 [.func (.yield yl) #[] #[]] 212 :: blk i9 [.slice asv t.ticks.toNat csv] 121 :: blk i8 [.int .i64 many] 3 :: blk i7 [.int .i64 (c.length : Int)] 3 :: blk i6 (chC (c ++ [(k : Int)])) 113 :: blk i5 [.pointer (some ⟨bk, 0, none⟩)] 107 :: (L2 ++ M)) := hS
      refine seqX <| regionX rfl ?_
      refine salloc hS Tryz.zeroValue113 rfl ?_; clear hS; intro b12 w hS
      refine sst hS rfl rfl Tryz.sizeOf113 rfl rfl rfl rfl ?_; clear hS; intro w hS
      refine nil ?_
      show Code.wpIn _ _ _ _ _ _ _
      refine regionX rfl <| sv (yAsg rfl) <| nil ?_
      refine ⟨_, blk b12 (chC xc) 113 :: rowI (.slice (some ⟨gl, 0, none⟩) t.ticks.toNat cl) 74 2 t.ticks.toNat ((meetS sp (tubeS t (fct t.fcs (curOf t now c.length).toNat) (mem (fct t.fcs (curOf t now c.length).toNat) k))).flatMap spanC) :: packI (marks Ds) :: blk b9 [.int .i64 (fct t.fcs (curOf t now c.length).toNat).centre, .int .i64 (fct t.fcs (curOf t now c.length).toNat).issued, .int .i64 (fct t.fcs (curOf t now c.length).toNat).frm, .slice am (fct t.fcs (curOf t now c.length).toNat).members.length cm] 61 :: blk b6 [.func (.yield yl) #[] #[]] 212 :: blk i9 [.slice asv t.ticks.toNat csv] 121 :: blk i8 [.int .i64 many] 3 :: blk i7 [.int .i64 (c.length : Int)] 3 :: blk i6 (chC (c ++ [(k : Int)])) 113 :: blk i5 [.pointer (some ⟨bk, 0, none⟩)] 107 :: L2, rfl, hS, ?_⟩
      clear hS hsub; clear M; intro M w hsub hS; replace hS : StX [] w0 w (blk b12 (chC xc) 113 :: rowI (.slice (some ⟨gl, 0, none⟩) t.ticks.toNat cl) 74 2 t.ticks.toNat ((meetS sp (tubeS t (fct t.fcs (curOf t now c.length).toNat) (mem (fct t.fcs (curOf t now c.length).toNat) k))).flatMap spanC) :: packI (marks Ds) :: blk b9 [.int .i64 (fct t.fcs (curOf t now c.length).toNat).centre, .int .i64 (fct t.fcs (curOf t now c.length).toNat).issued, .int .i64 (fct t.fcs (curOf t now c.length).toNat).frm, .slice am (fct t.fcs (curOf t now c.length).toNat).members.length cm] 61 :: blk b6 [.func (.yield yl) #[] #[]] 212 :: blk i9 [.slice asv t.ticks.toNat csv] 121 :: blk i8 [.int .i64 many] 3 :: blk i7 [.int .i64 (c.length : Int)] 3 :: blk i6 (chC (c ++ [(k : Int)])) 113 :: blk i5 [.pointer (some ⟨bk, 0, none⟩)] 107 :: (L2 ++ M)) := hS
      refine blockX <| seqX <| regionL <| preX 3 rfl <| sv (yLdB h6 Tryz.isAgg212 (hS.at _) rfl) <| sv (yLdBA rfl Tryz.isAgg113 Tryz.sizeOf113 (hS.at _) rfl rfl) <| sv (yMove rfl) <| nil ?_
      show wpListIn _ _ _ _ _ _ _ _
      replace hS := hS.perm (perm_mid [blk b12 (chC xc) 113, rowI (.slice (some ⟨gl, 0, none⟩) t.ticks.toNat cl) 74 2 t.ticks.toNat ((meetS sp (tubeS t (fct t.fcs (curOf t now c.length).toNat) (mem (fct t.fcs (curOf t now c.length).toNat) k))).flatMap spanC), packI (marks Ds), blk b9 [.int .i64 (fct t.fcs (curOf t now c.length).toNat).centre, .int .i64 (fct t.fcs (curOf t now c.length).toNat).issued, .int .i64 (fct t.fcs (curOf t now c.length).toNat).frm, .slice am (fct t.fcs (curOf t now c.length).toNat).members.length cm] 61, blk b6 [.func (.yield yl) #[] #[]] 212, blk i9 [.slice asv t.ticks.toNat csv] 121, blk i8 [.int .i64 many] 3, blk i7 [.int .i64 (c.length : Int)] 3, blk i6 (chC (c ++ [(k : Int)])) 113, blk i5 [.pointer (some ⟨bk, 0, none⟩)] 107] L2 M)
      refine yieldR rfl (.cons rfl (.cons rfl .nil)) (hY (xs ++ (prk ++ pre)) ((xc, xs2), .slice axv t.ticks.toNat cxv) _ L2 ([blk b12 (chC xc) 113, rowI (.slice (some ⟨gl, 0, none⟩) t.ticks.toNat cl) 74 2 t.ticks.toNat ((meetS sp (tubeS t (fct t.fcs (curOf t now c.length).toNat) (mem (fct t.fcs (curOf t now c.length).toNat) k))).flatMap spanC), packI (marks Ds), blk b9 [.int .i64 (fct t.fcs (curOf t now c.length).toNat).centre, .int .i64 (fct t.fcs (curOf t now c.length).toNat).issued, .int .i64 (fct t.fcs (curOf t now c.length).toNat).frm, .slice am (fct t.fcs (curOf t now c.length).toNat).members.length cm] 61, blk b6 [.func (.yield yl) #[] #[]] 212, blk i9 [.slice asv t.ticks.toNat csv] 121, blk i8 [.int .i64 many] 3, blk i7 [.int .i64 (c.length : Int)] 3, blk i6 (chC (c ++ [(k : Int)])) 113, blk i5 [.pointer (some ⟨bk, 0, none⟩)] 107] ++ M) (ChT.mk (by exact ch_trace hmore (by rw [cur_at hcl]) hkl hz1 hzk hTp) ⟨_, _, rfl⟩ (fun w hw hr => hTl w (fun it hit => hw it (List.mem_append_right _ (hsub it hit))) ⟨hr.1, hr.2.1, hr.2.2.1, sl_spans (hw (rowI (.slice (some ⟨gl, 0, none⟩) t.ticks.toNat cl) 74 2 t.ticks.toNat ((meetS sp (tubeS t (fct t.fcs (curOf t now c.length).toNat) (mem (fct t.fcs (curOf t now c.length).toNat) k))).flatMap spanC)) (by simp)) hll (lbd_i64 hlb)⟩)) hcb hS) ?_
      clear hS hcb; rintro _ w ⟨bq, L3, rfl, hcb, hS⟩
      replace hS : StX [] w0 w (blk b12 (chC xc) 113 :: rowI (.slice (some ⟨gl, 0, none⟩) t.ticks.toNat cl) 74 2 t.ticks.toNat ((meetS sp (tubeS t (fct t.fcs (curOf t now c.length).toNat) (mem (fct t.fcs (curOf t now c.length).toNat) k))).flatMap spanC) :: packI (marks Ds) :: blk b9 [.int .i64 (fct t.fcs (curOf t now c.length).toNat).centre, .int .i64 (fct t.fcs (curOf t now c.length).toNat).issued, .int .i64 (fct t.fcs (curOf t now c.length).toNat).frm, .slice am (fct t.fcs (curOf t now c.length).toNat).members.length cm] 61 :: blk b6 [.func (.yield yl) #[] #[]] 212 :: blk i9 [.slice asv t.ticks.toNat csv] 121 :: blk i8 [.int .i64 many] 3 :: blk i7 [.int .i64 (c.length : Int)] 3 :: blk i6 (chC (c ++ [(k : Int)])) 113 :: blk i5 [.pointer (some ⟨bk, 0, none⟩)] 107 :: (L3 ++ M)) := hS.perm (perm_mid [blk b12 (chC xc) 113, rowI (.slice (some ⟨gl, 0, none⟩) t.ticks.toNat cl) 74 2 t.ticks.toNat ((meetS sp (tubeS t (fct t.fcs (curOf t now c.length).toNat) (mem (fct t.fcs (curOf t now c.length).toNat) k))).flatMap spanC), packI (marks Ds), blk b9 [.int .i64 (fct t.fcs (curOf t now c.length).toNat).centre, .int .i64 (fct t.fcs (curOf t now c.length).toNat).issued, .int .i64 (fct t.fcs (curOf t now c.length).toNat).frm, .slice am (fct t.fcs (curOf t now c.length).toNat).members.length cm] 61, blk b6 [.func (.yield yl) #[] #[]] 212, blk i9 [.slice asv t.ticks.toNat csv] 121, blk i8 [.int .i64 many] 3, blk i7 [.int .i64 (c.length : Int)] 3, blk i6 (chC (c ++ [(k : Int)])) 113, blk i5 [.pointer (some ⟨bk, 0, none⟩)] 107] L3 M).symm
      refine endX rfl <| sv (yNot rfl) <| nil ?_
      show Code.wpIn _ _ _ _ _ _ _
      refine condX rfl (fun c100 => ?_) (fun c100 => ?_)
      ·
       obtain rfl : bq = false := by cases bq; rfl; cases c100
       refine wpIn_ret (blockR ?_)
       exact ⟨_, (.inr ⟨rfl, L3, rfl, by rw [List.append_assoc, List.append_assoc] at hcb; exact hcb⟩), hS.sub (.cons _ lrQ)⟩
      ·
       obtain rfl : bq = true := by cases bq; cases c100; rfl
       refine skipX ?_
       exact ⟨_, (.inl ⟨rfl, L3, rfl, by rw [List.append_assoc, List.append_assoc] at hcb; exact hcb⟩), (hS.sub (.cons _ lrQ))⟩
     ·
      clear hS
      intro D2 w L xs3 hZ2 hcb hS
      have hcb0 := hcb.resolve_right (fun h => by cases h.1)
      clear hcb
      obtain ⟨-, L2, rfl, hcb⟩ := hcb0
      replace hS : StX [] w0 w (obj D2 (.deferred (some [])) :: rowI (.slice (some ⟨gl, 0, none⟩) t.ticks.toNat cl) 74 2 t.ticks.toNat ((meetS sp (tubeS t (fct t.fcs (curOf t now c.length).toNat) (mem (fct t.fcs (curOf t now c.length).toNat) k))).flatMap spanC) :: packI (marks Ds) :: blk b9 [.int .i64 (fct t.fcs (curOf t now c.length).toNat).centre, .int .i64 (fct t.fcs (curOf t now c.length).toNat).issued, .int .i64 (fct t.fcs (curOf t now c.length).toNat).frm, .slice am (fct t.fcs (curOf t now c.length).toNat).members.length cm] 61 :: blk b6 [.func (.yield yl) #[] #[]] 212 :: blk i9 [.slice asv t.ticks.toNat csv] 121 :: blk i8 [.int .i64 many] 3 :: blk i7 [.int .i64 (c.length : Int)] 3 :: blk i6 (chC (c ++ [(k : Int)])) 113 :: blk i5 [.pointer (some ⟨bk, 0, none⟩)] 107 :: L2) := hS
      show Code.wpIn _ _ _ _ _ _ _
      refine regionX rfl <| sv (yAdd h72 rfl ⟨by omega, by omega⟩) <| sv (yMove rfl) <| nil ?_
      exact ⟨_, _, _, rfl, ⟨(D2 :: Ds), k + 1, (k : Int), prk ++ xs3, L2, rfl, h1, h2, h3, h4, h5, h6, h9, h70, h71, rfl, (chmarks hS), (by omega), (hcb), (by rw [List.map_append, hzk, show xs3.map (·.1) = _ from hZ2, chM_succ]), rfl⟩, by omega⟩
     ·
      intro D w L cc pre hcb hS
      have hcb0 := hcb.resolve_left (fun h => by cases h.1)
      clear hcb
      obtain ⟨hcc, L2, rfl, hcb⟩ := hcb0
      obtain rfl := Option.some.inj hcc
      replace hS : StX [] w0 w (obj D (.deferred (some [])) :: rowI (.slice (some ⟨gl, 0, none⟩) t.ticks.toNat cl) 74 2 t.ticks.toNat ((meetS sp (tubeS t (fct t.fcs (curOf t now c.length).toNat) (mem (fct t.fcs (curOf t now c.length).toNat) k))).flatMap spanC) :: packI (marks Ds) :: blk b9 [.int .i64 (fct t.fcs (curOf t now c.length).toNat).centre, .int .i64 (fct t.fcs (curOf t now c.length).toNat).issued, .int .i64 (fct t.fcs (curOf t now c.length).toNat).frm, .slice am (fct t.fcs (curOf t now c.length).toNat).members.length cm] 61 :: blk b6 [.func (.yield yl) #[] #[]] 212 :: blk i9 [.slice asv t.ticks.toNat csv] 121 :: blk i8 [.int .i64 many] 3 :: blk i7 [.int .i64 (c.length : Int)] 3 :: blk i6 (chC (c ++ [(k : Int)])) 113 :: blk i5 [.pointer (some ⟨bk, 0, none⟩)] 107 :: L2) := hS
      replace hS := chmarks hS
      refine wpIn_ret (blockR (blockR (thenR (thenR (blockR ?_)))))
      refine leafM hS (fun w hS => (results_none rfl _ _ _)) (fun w hS => ?_)
      exact ⟨L2, hS.sub (.cons _ (.cons _ (.cons _ (.cons _ (.cons _ (.cons _ (.cons _ lrQ))))))), .inr ⟨_, hcb⟩⟩
    ·
     simp only [BS, ne_eq] at c73
     obtain rfl : k = (fct t.fcs (curOf t now c.length).toNat).members.length := by omega
     refine exitX ?_
     show bodyPostM (FX none) 0 _ _ _ .normal _ _
     refine leafM hS (fun w hS => (results_none rfl _ _ _)) (fun w hS => ?_)
     exact ⟨L, hS.sub (.cons _ (.cons _ (.cons _ (.cons _ (.cons _ (.cons _ (.cons _ lrQ))))))), .inl ⟨xs ++ prk, ch_whole hmore (by rw [cur_at hcl]) hz1 hzk, hcb⟩⟩
  ·
   intro D w L cc pre hcb hS
   have hcb0 := hcb.resolve_left (fun h => by cases h.1)
   clear hcb
   obtain ⟨hcc, L2, rfl, hcb⟩ := hcb0
   obtain rfl := Option.some.inj hcc
   replace hS : StX [] w0 w (obj D (.deferred (some [])) :: blk b6 [.func (.yield yl) #[] #[]] 212 :: blk i9 [.slice asv t.ticks.toNat csv] 121 :: blk i8 [.int .i64 many] 3 :: blk i7 [.int .i64 (c.length : Int)] 3 :: blk i6 (chC (c ++ [-1])) 113 :: blk i5 [.pointer (some ⟨bk, 0, none⟩)] 107 :: L2) := hS
   refine wpIn_ret (blockR (thenR ?_))
   refine leafD hS (fun w hS => (results_none rfl _ _ _)) (fun w hS => ?_)
   exact ⟨L2, hS.sub (.cons _ (.cons _ (.cons _ (.cons _ (.cons _ (.cons _ (.cons _ lrQ))))))), .inr ⟨_, hcb⟩⟩
theorem it_choices {t : Sgt} {now : Int} {cv ov : Value} {ag ak ae aw ax : Option Addr} {cg ck ce cw cx bk : Nat} {T : TypeId} {w0 : World} (h : RSgt w0 [.int .i64 t.table.mean, cv, .slice ag t.gauges.length cg, .int .i64 t.wrong, .int .i64 t.frm, .int .i64 t.ticks, .slice ak t.ctrs.length ck, .slice ae t.fcs.length ce, .int .i64 t.least, .int .i64 t.most, .int .i64 t.rate, .int .i64 t.quorum] t) (hok : SgOk t) (hnow : Bd now 0 200000) (hg : Glb w0) : ∀ n, ItCh w0 t now cv ov ag ak ae aw ax cg ck ce cw cx bk T n
 | 0 => fun c many sp asv csv i5 i6 i7 i8 i9 hcn hm0 hm4 hsl hsb => it_chstep h hok hnow hg (fun m hm => by omega) hcn hm0 hm4 hsl hsb
 | n + 1 => fun c many sp asv csv i5 i6 i7 i8 i9 hcn hm0 hm4 hsl hsb => it_chstep h hok hnow hg (fun m hm => by
   obtain rfl : n = m := by omega
   exact it_choices h hok hnow hg n) hcn hm0 hm4 hsl hsb
end Go.Proofs.YtgidbailiababaaGreatDoor

/- part S14 -/
namespace Bx
open Go Go.RowKit
section
variable {t : Sgt} {now : Int}
theorem cho_of {tr : List ChX} {x : ChX} (h : (tr ++ [x]).map (·.1) <+: choS t now) : x.1 ∈ choS t now :=
  h.subset (by simp)
theorem cho_facts (h : SgOk t) {x : List Int × List Span} (hx : x ∈ choS t now) : x.1.length = t.ctrs.length ∧ x.2.length = t.ticks.toNat ∧ LBd 40000000 x.2 ∧ ∀ y ∈ x.1, I64 y := by
  refine ⟨?_, cho_len x hx, ch_lbd h _ _ _ _ (baseS_len t now) (baseS_lbd h now) x hx, ch_mem h _ _ _ _ (fun y hy => by cases hy) x hx⟩
  obtain ⟨d, h1, h2⟩ := ch_pre _ _ _ _ _ x hx
  rw [h1]; simpa using h2
abbrev bl (t : Sgt) (tr : List ChX) : List Bo := boxL t (tr.map (·.1))
theorem bl_no {tr : List ChX} {xc : List Int} {xs : List Span} {v : Value} (h : someT t.rate xs = false) : bl t (tr ++ [((xc, xs), v)]) = bl t tr := by
  unfold bl
  rw [List.map_append, List.map_singleton, boxL_snoc, h]; simp
theorem bl_yes {tr : List ChX} {xc : List Int} {xs : List Span} {v : Value} (h : someT t.rate xs = true) : bl t (tr ++ [((xc, xs), v)]) = bl t tr ++ [⟨xc, tightS t.rate xs⟩] := by
  unfold bl
  rw [List.map_append, List.map_singleton, boxL_snoc, h]; simp
theorem bl_bd (h : SgOk t) {tr : List ChX} {x : ChX} (hp : (tr ++ [x]).map (·.1) <+: choS t now) : (bl t tr).length < 626 := by
  have h1 := cho_bd (now := now) h
  have h2 := hp.length_le
  have h3 : (bl t tr).length ≤ (tr.map (·.1)).length := boxL_len
  rw [List.length_map] at h2 h3
  simp at h2
  omega
theorem bl_all {tr : List ChX} (hz : ChZ (choS t now) tr) : bl t tr = boxS t now := by
  unfold bl
  rw [show tr.map (·.1) = choS t now from hz]; rfl
theorem tides_lbd (h : SgOk t) : LBd 40000000 (tidesS t) := fun i hi => by
  rw [tidesS_len] at hi
  rw [spn_at (tidesS_get hi)]
  exact (tide_sbd h i).mono (by decide)
end
theorem packPush {w0 w : World} {v : Value} {z : List Int} {vs : List Value} {zs : List (List Int)} {L : List Item} (hl : vs.length = zs.length) (h : StX [] w0 w (inR v z :: packI (inI vs zs) :: L)) : StX [] w0 w (packI (inI (vs ++ [v]) (zs ++ [z])) :: L) := by
  rw [inI_snoc hl]
  exact h.packs
theorem bx_push {w0 w : World} {x1 x2 x3 x4 x5 RV : Item} {vm vl vh : Value} {zm zl zh : List Int} {ms ls hs : List Value} {zms zls zhs : List (List Int)} {L : List Item} (h1 : ms.length = zms.length) (h2 : ls.length = zls.length) (h3 : hs.length = zhs.length)
    (h : StX [] w0 w (x1 :: inR vm zm :: x2 :: x3 :: inR vl zl :: inR vh zh :: x4 :: x5 :: RV :: packI (inI ms zms) :: packI (inI ls zls) :: packI (inI hs zhs) :: L)) :
    StX [] w0 w (RV :: packI (inI (ms ++ [vm]) (zms ++ [zm])) :: packI (inI (ls ++ [vl]) (zls ++ [zl])) :: packI (inI (hs ++ [vh]) (zhs ++ [zh])) :: L) := by
  have k0 : StX [] w0 w (inR vm zm :: inR vl zl :: inR vh zh :: RV :: packI (inI ms zms) :: packI (inI ls zls) :: packI (inI hs zhs) :: L) :=
    h.sub (.cons _ (.cons_cons _ (.cons _ (.cons _ (.cons_cons _ (.cons_cons _ (.cons _ (.cons _ (List.Sublist.refl _)))))))))
  have k1 : StX [] w0 w (inR vm zm :: packI (inI ms zms) :: (inR vl zl :: inR vh zh :: RV :: packI (inI ls zls) :: packI (inI hs zhs) :: L)) := k0.perm (List.Perm.cons _ (List.perm_middle (l₁ := [_, _, _])))
  have k2 : StX [] w0 w (inR vl zl :: packI (inI ls zls) :: (packI (inI (ms ++ [vm]) (zms ++ [zm])) :: inR vh zh :: RV :: packI (inI hs zhs) :: L)) :=
    (packPush h1 k1).perm ((List.perm_middle (l₁ := [_]) (l₂ := _) (a := inR vl zl)).trans (List.Perm.cons _ (List.perm_middle (l₁ := [_, _, _]))))
  have k3 : StX [] w0 w (inR vh zh :: packI (inI hs zhs) :: (packI (inI (ls ++ [vl]) (zls ++ [zl])) :: packI (inI (ms ++ [vm]) (zms ++ [zm])) :: RV :: L)) :=
    (packPush h2 k2).perm ((List.perm_middle (l₁ := [_, _]) (l₂ := _) (a := inR vh zh)).trans (List.Perm.cons _ (List.perm_middle (l₁ := [_, _, _]))))
  have k4 := packPush h3 k3
  refine k4.perm ?_
  refine (List.perm_middle (l₁ := [_, _, _]) (a := RV) (l₂ := L)).trans (List.Perm.cons _ ?_)
  exact tight_swap _ _ _ _
theorem bxEnd {w0 w : World} {frm : Int} {bs : List Bo} (b : Bo) {nc nt : Nat} {E : TypeId} {x1 x2 x3 x4 x5 : Item} {v m l h : Value} {ms ls hs : List Value} {L : List Item} (hnc : b.mem.length = nc) (hnl : (lowB b).length = nt) (hnh : (highB b).length = nt)
    (h1 : ms.length = bs.length) (h2 : ls.length = bs.length) (h3 : hs.length = bs.length)
    (hS : StX [] w0 w (x1 :: rowI m 3 1 nc (b.mem.flatMap encI) :: x2 :: x3 :: rowI l 3 1 nt ((lowB b).flatMap encI) :: rowI h 3 1 nt ((highB b).flatMap encI) :: x4 :: x5 :: rowI v E 9 (bs.length + 1) ((bxCs frm (bs.map Bo.mem) ms ls hs).flatten ++ bxC frm b.mem m l h) :: packI (inI ms (bs.map Bo.mem)) :: packI (inI ls (bs.map lowB)) :: packI (inI hs (bs.map highB)) :: L)) :
    StX [] w0 w (rowI v E 9 (bs ++ [b]).length (bxCs frm ((bs ++ [b]).map Bo.mem) (ms ++ [m]) (ls ++ [l]) (hs ++ [h])).flatten :: packI (inI (ms ++ [m]) ((bs ++ [b]).map Bo.mem)) :: packI (inI (ls ++ [l]) ((bs ++ [b]).map lowB)) :: packI (inI (hs ++ [h]) ((bs ++ [b]).map highB)) :: L) := by
  subst hnc
  rw [List.map_append, List.map_append, List.map_append, List.map_singleton, List.map_singleton, List.map_singleton, bxCs_snoc frm b.mem m l h (by simp [h1]) (by simp [h2]) (by simp [h3]), List.flatten_append, List.flatten_singleton, List.length_append, List.length_singleton]
  have e2 : inR l (lowB b) = rowI l 3 1 nt ((lowB b).flatMap encI) := by unfold inR; rw [hnl]
  have e3 : inR h (highB b) = rowI h 3 1 nt ((highB b).flatMap encI) := by unfold inR; rw [hnh]
  rw [← e2, ← e3] at hS
  exact bx_push (by simp [h1]) (by simp [h2]) (by simp [h3]) hS
theorem cho_cells {w : World} {b n : Nat} {T : TypeId} {xc : List Int} (h : w.heap[b]? = some (.cells (chC xc).toArray T (0, 0))) (hl : xc.length = n) (hn : n ≤ 4) : Cells w b 0 (xc.flatMap encI) := by
  rw [← chC_take xc (by omega)]
  intro j u hj
  rw [List.getElem?_take] at hj
  split at hj
  · exact blk_cells h j u hj
  · cases hj
end Bx

/- part Sx1 -/
namespace Go.Proofs.YtgidbailiababaaGreatDoor
open Go Bx
theorem c_tightenN {l : List Span} {g cap nn : Nat} {r : Int} {w0 w : World} {L9 : List Bx.Item} (hl : l.length = nn) (hS : StX [] w0 w (rowI (.slice (some ⟨g, 0, none⟩) nn cap) 74 2 nn ((l).flatMap spanC) :: L9)) (hmx : nn ≤ 1000) (hlb : LBd 40000000 l) (hr : 0 ≤ r ∧ r ≤ 5000) :
  CE Tryz.prog 84 #[.slice (some ⟨g, 0, none⟩) nn cap, .int .i64 r] w (fun u w' => u = .bool (someT r l) ∧ ∃ q : List Span, (someT r l = true → q = tightS r l) ∧ StX [] w0 w' (rowI (.slice (some ⟨g, 0, none⟩) nn cap) 74 2 nn ((q).flatMap spanC) :: L9)) := by
 subst hl
 exact c_tighten hS hmx hlb hr
set_option maxHeartbeats 8000000 in
theorem c_boxes {t : Sgt} {now : Int} {cv ov : Value} {ag ak ae aw ax : Option Addr} {cg ck ce cw cx bk mo : Nat} {os : List Span} {w0 w : World} {L9 : List Bx.Item} (h : RSgt w0 [.int .i64 t.table.mean, cv, .slice ag t.gauges.length cg, .int .i64 t.wrong, .int .i64 t.frm, .int .i64 t.ticks, .slice ak t.ctrs.length ck, .slice ae t.fcs.length ce, .int .i64 t.least, .int .i64 t.most, .int .i64 t.rate, .int .i64 t.quorum] t) (hok : SgOk t) (hnow : Bd now 0 200000) (hg : Glb w0) (hown : (os = [] ∧ mo = 0 ∧ ov = .slice none 0 0) ∨ (os = baseS t now ∧ mo = t.ticks.toNat)) (hS : StX [] w0 w (blk bk [.int .i64 t.table.mean, cv, .slice ag t.gauges.length cg, .int .i64 t.wrong, .int .i64 t.frm, .int .i64 t.ticks, .slice ak t.ctrs.length ck, .slice ae t.fcs.length ce, .int .i64 t.least, .int .i64 t.most, .int .i64 t.rate, .int .i64 t.quorum, .int .i64 now, .slice aw t.ticks.toNat cw, .slice ax t.ctrs.length cx, ov] 123 :: rowI (ov) 74 2 mo ((os).flatMap spanC) :: rowI (.slice aw t.ticks.toNat cw) 74 2 t.ticks.toNat ((tidesS t).flatMap spanC) :: rowI (.slice ax t.ctrs.length cx) 3 1 t.ctrs.length ((curS t now).flatMap Bx.encI) :: L9)) : CE Tryz.prog 64 #[.pointer (some ⟨bk, 0, none⟩)] w (fun u w' => ∃ ov' ms ls hs, ms.length = (boxS t now).length ∧ ls.length = (boxS t now).length ∧ hs.length = (boxS t now).length ∧ StX [] w0 w' (rowI (u) 115 9 (boxS t now).length (bxCs t.frm ((boxS t now).map Bo.mem) ms ls hs).flatten :: packI (inI ms ((boxS t now).map Bo.mem)) :: packI (inI ls ((boxS t now).map lowB)) :: packI (inI hs ((boxS t now).map highB)) :: blk bk [.int .i64 t.table.mean, cv, .slice ag t.gauges.length cg, .int .i64 t.wrong, .int .i64 t.frm, .int .i64 t.ticks, .slice ak t.ctrs.length ck, .slice ae t.fcs.length ce, .int .i64 t.least, .int .i64 t.most, .int .i64 t.rate, .int .i64 t.quorum, .int .i64 now, .slice aw t.ticks.toNat cw, .slice ax t.ctrs.length cx, ov'] 123 :: rowI (ov') 74 2 t.ticks.toNat ((baseS t now).flatMap spanC) :: rowI (.slice aw t.ticks.toNat cw) 74 2 t.ticks.toNat ((tidesS t).flatMap spanC) :: rowI (.slice ax t.ctrs.length cx) 3 1 t.ctrs.length ((curS t now).flatMap Bx.encI) :: L9)) := by
 obtain ⟨hT, hG, hw64, hf64, hk64, hC, hF, hl64, hm64, hr64, hq64⟩ := RSgt.parts h
 have htk := hok.tk
 have hnc := hok.nc
 have hn4 := hok.nums4
 refine enterX Tryz.func64 rfl Tryz.ntmps64 rfl ?_
 skip
 refine seqX <| regionX rfl ?_
 refine sbox hS rfl rfl ?_; clear hS; intro b1 w hS
 refine salloc hS Tryz.zeroValue110 rfl ?_; clear hS; intro b2 w hS
 refine nil ?_
 show Code.wpIn _ _ _ _ _ _ _
 refine seqX <| seqX <| region_anyX (C := (fun w => w.heap[b1]? = some (.cells ([.pointer (some ⟨bk, 0, none⟩)] : List Value).toArray 107 (0, 0)))) mixed 0 7 (by kernel_rfl) rfl hS (fun w hS => (hS.at b1)) ?_
 clear hS; intro w hS
 refine hnil <| f_step 0 (by kernel_rfl) rfl (fun _ _ _ _ h => False.elim h) (hS.at b1) (fun w hS => (yLdB rfl Tryz.isAgg107 hS rfl)) <| f_step 1 (by kernel_rfl) rfl (fun _ _ _ _ h => False.elim h) (hS.at b1) (fun w hS => (yBuildA Tryz.zeroValue113 rfl Tryz.underlying113 Tryz.sizeOf3 .nil rfl)) <| f_step 2 (by kernel_rfl) rfl (fun _ _ _ _ h => False.elim h) (hS.at b1) (fun w hS => (yLdB rfl Tryz.isAgg107 hS rfl)) <| f_step 4 (by kernel_rfl) rfl (fun _ _ _ _ h => False.elim h) (hS.at b1) (fun w hS => (yLdB rfl Tryz.isAgg107 hS rfl)) <| awQ <| a1Q 3 (by kernel_rfl) rfl ?_
 replace hS : StX [] w0 w (blk bk [.int .i64 t.table.mean, cv, .slice ag t.gauges.length cg, .int .i64 t.wrong, .int .i64 t.frm, .int .i64 t.ticks, .slice ak t.ctrs.length ck, .slice ae t.fcs.length ce, .int .i64 t.least, .int .i64 t.most, .int .i64 t.rate, .int .i64 t.quorum, .int .i64 now, .slice aw t.ticks.toNat cw, .slice ax t.ctrs.length cx, ov] 123 :: rowI (ov) 74 2 mo ((os).flatMap spanC) :: rowI (.slice aw t.ticks.toNat cw) 74 2 t.ticks.toNat ((tidesS t).flatMap spanC) :: rowI (.slice ax t.ctrs.length cx) 3 1 t.ctrs.length ((curS t now).flatMap Bx.encI) :: blk b2 [.slice none 0 0] 110 :: blk b1 [.pointer (some ⟨bk, 0, none⟩)] 107 :: L9) := hS.perm (List.perm_append_comm_assoc [_, _] [_, _, _, _] L9)
 refine scall Tryz.call119 (.cons rfl .nil) (c_needS ⟨cv, ag, cg, ak, ck, ae, ce, aw, cw, ax, cx, hS.at bk, RTable.stays _ _ _ _ hS.ext hT, hG.ext RGauge.stays hS.ext, hC.ext RCtr.stays hS.ext, hF.ext RFct.stays hS.ext, sl_spans (hS.row (.slice aw t.ticks.toNat cw)) (tidesS_len ..) (lbd_i64 (tides_lbd hok)), sl_ints (hS.row (.slice ax t.ctrs.length cx)) (curS_len ..) (cur_i64 hok)⟩ hok) ?_
 rintro _ w ⟨rfl, hE⟩; replace hS := hS.step hE; clear hE
 refine nil ?_
 refine ⟨fun _ => (hS.at b1), ?_⟩
 refine awQ <| awQ <| a1Q 5 (by kernel_rfl) rfl ?_
 refine scall Tryz.call81 (.cons rfl .nil) (c_baseS h hok hnow hg hown hS) ?_
 rintro bv w ⟨ov', hM⟩; clear hS; have hS := hM; clear hM
 obtain ⟨go, co, rfl, -⟩ := row_some (hS.row bv) (by omega)
 refine nil ?_
 refine ⟨fun _ => (hS.at b1), ?_⟩
 refine awQ <| awQ <| a1Q 6 (by kernel_rfl) rfl ?_
 replace hS := (StX.pack (M := inI [] []) (StX.pack (M := inI [] []) (StX.pack (M := inI [] []) hS))).nilrow 115 9
 refine scall Tryz.call118 (.cons rfl (.cons rfl (.cons rfl (.cons rfl (.cons rfl .nil))))) (c_choices (c := []) (nn := t.ticks.toNat)) ?_
 rintro _ w ⟨j5, j6, j7, j8, j9, rfl, hM⟩; replace hS := hS.call hM; clear hM
 replace hS : StX [] w0 w (blk j9 [.slice (some ⟨go, 0, none⟩) t.ticks.toNat co] 121 :: blk j8 [.int .i64 (needS t now)] 3 :: blk j7 [.int .i64 (([] : List Int).length : Int)] 3 :: blk j6 (chC ([] : List Int)) 113 :: blk j5 [.pointer (some ⟨bk, 0, none⟩)] 107 :: rowI (.slice none 0 0) 115 9 (bl t []).length (bxCs t.frm ((bl t []).map Bo.mem) [] [] []).flatten :: packI (inI [] ((bl t []).map Bo.mem)) :: packI (inI [] ((bl t []).map lowB)) :: packI (inI [] ((bl t []).map highB)) :: rowI (.slice (some ⟨go, 0, none⟩) t.ticks.toNat co) 74 2 t.ticks.toNat ((baseS t now).flatMap spanC) :: blk bk [.int .i64 t.table.mean, cv, .slice ag t.gauges.length cg, .int .i64 t.wrong, .int .i64 t.frm, .int .i64 t.ticks, .slice ak t.ctrs.length ck, .slice ae t.fcs.length ce, .int .i64 t.least, .int .i64 t.most, .int .i64 t.rate, .int .i64 t.quorum, .int .i64 now, .slice aw t.ticks.toNat cw, .slice ax t.ctrs.length cx, ov'] 123 :: rowI (ov') 74 2 t.ticks.toNat ((baseS t now).flatMap spanC) :: rowI (.slice aw t.ticks.toNat cw) 74 2 t.ticks.toNat ((tidesS t).flatMap spanC) :: rowI (.slice ax t.ctrs.length cx) 3 1 t.ctrs.length ((curS t now).flatMap Bx.encI) :: blk b2 [.slice none 0 0] 110 :: blk b1 [.pointer (some ⟨bk, 0, none⟩)] 107 :: L9) := hS
 refine nil ?_
 refine ⟨fun _ => (hS.at b1), ?_⟩
 refine awQ <| a_end (by kernel_rfl) ?_
 show Code.wpIn _ _ _ _ _ _ _
 refine blockX ?_
 refine rangeQ (R := [blk j9 [.slice (some ⟨go, 0, none⟩) t.ticks.toNat co] 121, blk j8 [.int .i64 (needS t now)] 3, blk j7 [.int .i64 (([] : List Int).length : Int)] 3, blk j6 (chC ([] : List Int)) 113, blk j5 [.pointer (some ⟨bk, 0, none⟩)] 107]) (L0 := rowI (.slice none 0 0) 115 9 (bl t []).length (bxCs t.frm ((bl t []).map Bo.mem) [] [] []).flatten :: packI (inI [] ((bl t []).map Bo.mem)) :: packI (inI [] ((bl t []).map lowB)) :: packI (inI [] ((bl t []).map highB)) :: rowI (.slice (some ⟨go, 0, none⟩) t.ticks.toNat co) 74 2 t.ticks.toNat ((baseS t now).flatMap spanC) :: blk bk [.int .i64 t.table.mean, cv, .slice ag t.gauges.length cg, .int .i64 t.wrong, .int .i64 t.frm, .int .i64 t.ticks, .slice ak t.ctrs.length ck, .slice ae t.fcs.length ce, .int .i64 t.least, .int .i64 t.most, .int .i64 t.rate, .int .i64 t.quorum, .int .i64 now, .slice aw t.ticks.toNat cw, .slice ax t.ctrs.length cx, ov'] 123 :: rowI (ov') 74 2 t.ticks.toNat ((baseS t now).flatMap spanC) :: rowI (.slice aw t.ticks.toNat cw) 74 2 t.ticks.toNat ((tidesS t).flatMap spanC) :: rowI (.slice ax t.ctrs.length cx) 3 1 t.ctrs.length ((curS t now).flatMap Bx.encI) :: blk b2 [.slice none 0 0] 110 :: blk b1 [.pointer (some ⟨bk, 0, none⟩)] 107 :: L9) (ps := [14, 15]) rfl Tryz.call168 hS (it_choices h hok hnow hg t.ctrs.length [] (needS t now) (baseS t now) (some ⟨go, 0, none⟩) co _ _ _ _ _ (by simp) (need_nn now hok) (need_le hok) (baseS_len t now) (baseS_lbd hok now)) (fun cc pre L => cc = none ∧ ∃ v ms ls hs, ms.length = (bl t pre).length ∧ ls.length = (bl t pre).length ∧ hs.length = (bl t pre).length ∧ L = rowI (v) 115 9 (bl t pre).length (bxCs t.frm ((bl t pre).map Bo.mem) ms ls hs).flatten :: packI (inI ms ((bl t pre).map Bo.mem)) :: packI (inI ls ((bl t pre).map lowB)) :: packI (inI hs ((bl t pre).map highB)) :: rowI (.slice (some ⟨go, 0, none⟩) t.ticks.toNat co) 74 2 t.ticks.toNat ((baseS t now).flatMap spanC) :: blk bk [.int .i64 t.table.mean, cv, .slice ag t.gauges.length cg, .int .i64 t.wrong, .int .i64 t.frm, .int .i64 t.ticks, .slice ak t.ctrs.length ck, .slice ae t.fcs.length ce, .int .i64 t.least, .int .i64 t.most, .int .i64 t.rate, .int .i64 t.quorum, .int .i64 now, .slice aw t.ticks.toNat cw, .slice ax t.ctrs.length cx, ov'] 123 :: rowI (ov') 74 2 t.ticks.toNat ((baseS t now).flatMap spanC) :: rowI (.slice aw t.ticks.toNat cw) 74 2 t.ticks.toNat ((tidesS t).flatMap spanC) :: rowI (.slice ax t.ctrs.length cx) 3 1 t.ctrs.length ((curS t now).flatMap Bx.encI) :: blk b2 [v] 110 :: blk b1 [.pointer (some ⟨bk, 0, none⟩)] 107 :: L9) ⟨rfl, .slice none 0 0, [], [], [], rfl, rfl, rfl, rfl⟩ (fun _ => rfl) (fun pre w L M hcb2 hS => by
  obtain ⟨-, v, ms, ls, hs, -, -, -, rfl⟩ := hcb2
  have hq := hS.sub (List.sublist_append_left _ M)
  exact ⟨hq.at bk, sl_spans (hq.row (.slice aw t.ticks.toNat cw)) (tidesS_len ..) (lbd_i64 (tides_lbd hok)), sl_ints (hq.row (.slice ax t.ctrs.length cx)) (curS_len ..) (cur_i64 hok), sl_spans (hq.row (.slice (some ⟨go, 0, none⟩) t.ticks.toNat co)) (baseS_len ..) (lbd_i64 (baseS_lbd hok now))⟩) ?_ ?_ ?_
 ·
  clear hS
  intro yl2 pre x w L M M0 hT hsub hcb2 hS
  obtain ⟨-, v, ms, ls, hs, hl1, hl2, hl3, rfl⟩ := hcb2
  obtain ⟨hTp, hTs, hTl⟩ := hT.last
  obtain ⟨⟨xc, xs2⟩, xv⟩ := x
  obtain ⟨axv, cxv, hxv⟩ := hTs
  obtain rfl : xv = _ := hxv
  obtain ⟨hxl, hxn, hxb, hxi⟩ := cho_facts hok (cho_of hTp)
  have hbb := bl_bd hok hTp
  replace hS : StX [] w0 w (rowI (v) 115 9 (bl t pre).length (bxCs t.frm ((bl t pre).map Bo.mem) ms ls hs).flatten :: packI (inI ms ((bl t pre).map Bo.mem)) :: packI (inI ls ((bl t pre).map lowB)) :: packI (inI hs ((bl t pre).map highB)) :: rowI (.slice (some ⟨go, 0, none⟩) t.ticks.toNat co) 74 2 t.ticks.toNat ((baseS t now).flatMap spanC) :: blk bk [.int .i64 t.table.mean, cv, .slice ag t.gauges.length cg, .int .i64 t.wrong, .int .i64 t.frm, .int .i64 t.ticks, .slice ak t.ctrs.length ck, .slice ae t.fcs.length ce, .int .i64 t.least, .int .i64 t.most, .int .i64 t.rate, .int .i64 t.quorum, .int .i64 now, .slice aw t.ticks.toNat cw, .slice ax t.ctrs.length cx, ov'] 123 :: rowI (ov') 74 2 t.ticks.toNat ((baseS t now).flatMap spanC) :: rowI (.slice aw t.ticks.toNat cw) 74 2 t.ticks.toNat ((tidesS t).flatMap spanC) :: rowI (.slice ax t.ctrs.length cx) 3 1 t.ctrs.length ((curS t now).flatMap Bx.encI) :: blk b2 [v] 110 :: blk b1 [.pointer (some ⟨bk, 0, none⟩)] 107 :: (L9 ++ M)) := hS
  refine seqX <| regionX rfl ?_
  refine salloc hS Tryz.zeroValue113 rfl ?_; clear hS; intro b3 w hS
  refine sst hS rfl rfl Tryz.sizeOf113 rfl rfl rfl rfl ?_; clear hS; intro w hS
  refine nil ?_
  show Code.wpIn _ _ _ _ _ _ _
  refine regionX rfl <| sv (yAsg rfl) <| nil ?_
  refine ⟨_, blk b3 (chC xc) 113 :: rowI (v) 115 9 (bl t pre).length (bxCs t.frm ((bl t pre).map Bo.mem) ms ls hs).flatten :: packI (inI ms ((bl t pre).map Bo.mem)) :: packI (inI ls ((bl t pre).map lowB)) :: packI (inI hs ((bl t pre).map highB)) :: rowI (.slice (some ⟨go, 0, none⟩) t.ticks.toNat co) 74 2 t.ticks.toNat ((baseS t now).flatMap spanC) :: blk bk [.int .i64 t.table.mean, cv, .slice ag t.gauges.length cg, .int .i64 t.wrong, .int .i64 t.frm, .int .i64 t.ticks, .slice ak t.ctrs.length ck, .slice ae t.fcs.length ce, .int .i64 t.least, .int .i64 t.most, .int .i64 t.rate, .int .i64 t.quorum, .int .i64 now, .slice aw t.ticks.toNat cw, .slice ax t.ctrs.length cx, ov'] 123 :: rowI (ov') 74 2 t.ticks.toNat ((baseS t now).flatMap spanC) :: rowI (.slice aw t.ticks.toNat cw) 74 2 t.ticks.toNat ((tidesS t).flatMap spanC) :: rowI (.slice ax t.ctrs.length cx) 3 1 t.ctrs.length ((curS t now).flatMap Bx.encI) :: blk b2 [v] 110 :: blk b1 [.pointer (some ⟨bk, 0, none⟩)] 107 :: L9, rfl, hS, ?_⟩
  clear hS hsub; clear M; intro M w hsub hS; replace hS : StX [] w0 w (blk b3 (chC xc) 113 :: rowI (v) 115 9 (bl t pre).length (bxCs t.frm ((bl t pre).map Bo.mem) ms ls hs).flatten :: packI (inI ms ((bl t pre).map Bo.mem)) :: packI (inI ls ((bl t pre).map lowB)) :: packI (inI hs ((bl t pre).map highB)) :: rowI (.slice (some ⟨go, 0, none⟩) t.ticks.toNat co) 74 2 t.ticks.toNat ((baseS t now).flatMap spanC) :: blk bk [.int .i64 t.table.mean, cv, .slice ag t.gauges.length cg, .int .i64 t.wrong, .int .i64 t.frm, .int .i64 t.ticks, .slice ak t.ctrs.length ck, .slice ae t.fcs.length ce, .int .i64 t.least, .int .i64 t.most, .int .i64 t.rate, .int .i64 t.quorum, .int .i64 now, .slice aw t.ticks.toNat cw, .slice ax t.ctrs.length cx, ov'] 123 :: rowI (ov') 74 2 t.ticks.toNat ((baseS t now).flatMap spanC) :: rowI (.slice aw t.ticks.toNat cw) 74 2 t.ticks.toNat ((tidesS t).flatMap spanC) :: rowI (.slice ax t.ctrs.length cx) 3 1 t.ctrs.length ((curS t now).flatMap Bx.encI) :: blk b2 [v] 110 :: blk b1 [.pointer (some ⟨bk, 0, none⟩)] 107 :: (L9 ++ M)) := hS
  refine blockX <| seqX <| regionX rfl ?_
  have hRd : RdC bk 123 [.int .i64 t.table.mean, cv, .slice ag t.gauges.length cg, .int .i64 t.wrong, .int .i64 t.frm, .int .i64 t.ticks, .slice ak t.ctrs.length ck, .slice ae t.fcs.length ce, .int .i64 t.least, .int .i64 t.most, .int .i64 t.rate, .int .i64 t.quorum, .int .i64 now, .slice aw t.ticks.toNat cw, .slice ax t.ctrs.length cx, ov'] t now aw ax (some ⟨go, 0, none⟩) cw cx co (baseS t now) w := by
   have hq := hS.sub (.cons _ (List.sublist_append_left (rowI (v) 115 9 (bl t pre).length (bxCs t.frm ((bl t pre).map Bo.mem) ms ls hs).flatten :: packI (inI ms ((bl t pre).map Bo.mem)) :: packI (inI ls ((bl t pre).map lowB)) :: packI (inI hs ((bl t pre).map highB)) :: rowI (.slice (some ⟨go, 0, none⟩) t.ticks.toNat co) 74 2 t.ticks.toNat ((baseS t now).flatMap spanC) :: blk bk [.int .i64 t.table.mean, cv, .slice ag t.gauges.length cg, .int .i64 t.wrong, .int .i64 t.frm, .int .i64 t.ticks, .slice ak t.ctrs.length ck, .slice ae t.fcs.length ce, .int .i64 t.least, .int .i64 t.most, .int .i64 t.rate, .int .i64 t.quorum, .int .i64 now, .slice aw t.ticks.toNat cw, .slice ax t.ctrs.length cx, ov'] 123 :: rowI (ov') 74 2 t.ticks.toNat ((baseS t now).flatMap spanC) :: rowI (.slice aw t.ticks.toNat cw) 74 2 t.ticks.toNat ((tidesS t).flatMap spanC) :: rowI (.slice ax t.ctrs.length cx) 3 1 t.ctrs.length ((curS t now).flatMap Bx.encI) :: blk b2 [v] 110 :: blk b1 [.pointer (some ⟨bk, 0, none⟩)] 107 :: L9) M))
   exact ⟨hq.at bk, sl_spans (hq.row (.slice aw t.ticks.toNat cw)) (tidesS_len ..) (lbd_i64 (tides_lbd hok)), sl_ints (hq.row (.slice ax t.ctrs.length cx)) (curS_len ..) (cur_i64 hok), sl_spans (hq.row (.slice (some ⟨go, 0, none⟩) t.ticks.toNat co)) (baseS_len ..) (lbd_i64 (baseS_lbd hok now))⟩
  have hxs := hTl w (fun it hit => hS.ok it (List.mem_cons_of_mem _ (List.mem_append_right (rowI (v) 115 9 (bl t pre).length (bxCs t.frm ((bl t pre).map Bo.mem) ms ls hs).flatten :: packI (inI ms ((bl t pre).map Bo.mem)) :: packI (inI ls ((bl t pre).map lowB)) :: packI (inI hs ((bl t pre).map highB)) :: rowI (.slice (some ⟨go, 0, none⟩) t.ticks.toNat co) 74 2 t.ticks.toNat ((baseS t now).flatMap spanC) :: blk bk [.int .i64 t.table.mean, cv, .slice ag t.gauges.length cg, .int .i64 t.wrong, .int .i64 t.frm, .int .i64 t.ticks, .slice ak t.ctrs.length ck, .slice ae t.fcs.length ce, .int .i64 t.least, .int .i64 t.most, .int .i64 t.rate, .int .i64 t.quorum, .int .i64 now, .slice aw t.ticks.toNat cw, .slice ax t.ctrs.length cx, ov'] 123 :: rowI (ov') 74 2 t.ticks.toNat ((baseS t now).flatMap spanC) :: rowI (.slice aw t.ticks.toNat cw) 74 2 t.ticks.toNat ((tidesS t).flatMap spanC) :: rowI (.slice ax t.ctrs.length cx) 3 1 t.ctrs.length ((curS t now).flatMap Bx.encI) :: blk b2 [v] 110 :: blk b1 [.pointer (some ⟨bk, 0, none⟩)] 107 :: L9) (hsub it hit)))) hRd
  refine sv (yMove rfl) ?_
  refine scall Tryz.call120 (.cons rfl .nil) (c_CloneS hxs hxn (by omega)) ?_
  rintro gv w hM; replace hS := hS.call1 hM; clear hM
  obtain ⟨gl, cl, rfl, -⟩ := row_some (hS.row gv) (by omega)
  refine sv (yAsg rfl) <| nil ?_
  show Code.wpIn _ _ _ _ _ _ _
  refine seqX <| seqX <| regionX rfl <| sv (yMove rfl) <| sv (yLdB rfl Tryz.isAgg107 (hS.at _) rfl) <| sv (yNil rfl) <| sv (fa123_0 rfl) <| sv (fa29_9 rfl) <| sv (yLdB rfl Tryz.isAgg3 (hS.at _) rfl) ?_
  refine scall Tryz.call84 (.cons rfl (.cons rfl .nil)) (c_tightenN hxn hS (by omega) hxb ⟨rate_nn hok, by have := hn4.2.2.1; omega⟩) ?_
  rintro _ w ⟨rfl, q, hq, hM⟩; clear hS; have hS := hM; clear hM
  refine sv (yNot rfl) <| nil ?_
  show Code.wpIn _ _ _ _ _ _ _
  refine condX rfl (fun c25 => ?_) (fun c25 => ?_)
  ·
   have hst : someT t.rate xs2 = false := by cases hh : someT t.rate xs2 with | false => rfl | true => rw [hh] at c25; cases c25
   refine exitX ?_
   exact ⟨_, ⟨rfl, v, ms, ls, hs, by rw [bl_no hst]; exact hl1, by rw [bl_no hst]; exact hl2, by rw [bl_no hst]; exact hl3, rfl⟩, (by rw [bl_no hst]; exact hS.sub (.cons _ (.cons _ lrQ)))⟩
  ·
   have hst : someT t.rate xs2 = true := by cases hh : someT t.rate xs2 with | true => rfl | false => rw [hh] at c25; cases c25
   obtain rfl := hq hst
   have hqb : LBd 40000000 (tightS t.rate xs2) := tight_sbd (rate_nn hok) hxb
   refine skipX ?_
   show Code.wpIn _ _ _ _ _ _ _
   refine seqX <| regionX rfl <| sv (yMove rfl) <| sv (yLdB rfl Tryz.isAgg107 (hS.at _) rfl) <| sv (yNil rfl) <| sv (fa123_0 rfl) <| sv (fa29_3 rfl) <| sv (yLdB rfl Tryz.isAgg3 (hS.at _) rfl) ?_
   refine scall Tryz.call121 (.cons rfl (.cons rfl .nil)) (c_endsS (sl_spans (hS.row (.slice (some ⟨gl, 0, none⟩) t.ticks.toNat cl)) ((tightS_len ..).trans hxn) (lbd_i64 hqb)) ((tightS_len ..).trans hxn) (by omega)) ?_
   rintro _ w ⟨lv, hv, rfl, hM⟩; obtain ⟨alv, clv, rfl⟩ := row_shape (hM.row lv)
   obtain ⟨ahv, chv, rfl⟩ := row_shape (hM.row hv)
   replace hS := hS.call hM; clear hM
   replace hS : StX [] w0 w (rowI (.slice alv t.ticks.toNat clv) 3 1 t.ticks.toNat ((losS (tightS t.rate xs2)).flatMap Bx.encI) :: rowI (.slice ahv t.ticks.toNat chv) 3 1 t.ticks.toNat ((hisS (tightS t.rate xs2)).flatMap Bx.encI) :: rowI (.slice (some ⟨gl, 0, none⟩) t.ticks.toNat cl) 74 2 t.ticks.toNat ((tightS t.rate xs2).flatMap spanC) :: blk b3 (chC xc) 113 :: rowI (v) 115 9 (bl t pre).length (bxCs t.frm ((bl t pre).map Bo.mem) ms ls hs).flatten :: packI (inI ms ((bl t pre).map Bo.mem)) :: packI (inI ls ((bl t pre).map lowB)) :: packI (inI hs ((bl t pre).map highB)) :: rowI (.slice (some ⟨go, 0, none⟩) t.ticks.toNat co) 74 2 t.ticks.toNat ((baseS t now).flatMap spanC) :: blk bk [.int .i64 t.table.mean, cv, .slice ag t.gauges.length cg, .int .i64 t.wrong, .int .i64 t.frm, .int .i64 t.ticks, .slice ak t.ctrs.length ck, .slice ae t.fcs.length ce, .int .i64 t.least, .int .i64 t.most, .int .i64 t.rate, .int .i64 t.quorum, .int .i64 now, .slice aw t.ticks.toNat cw, .slice ax t.ctrs.length cx, ov'] 123 :: rowI (ov') 74 2 t.ticks.toNat ((baseS t now).flatMap spanC) :: rowI (.slice aw t.ticks.toNat cw) 74 2 t.ticks.toNat ((tidesS t).flatMap spanC) :: rowI (.slice ax t.ctrs.length cx) 3 1 t.ctrs.length ((curS t now).flatMap Bx.encI) :: blk b2 [v] 110 :: blk b1 [.pointer (some ⟨bk, 0, none⟩)] 107 :: (L9 ++ M)) := hS
   refine sv (yMove rfl) <| sv (yExt rfl rfl) <| sv (yExt rfl rfl) ?_
   refine salloc hS Tryz.zeroValue41 rfl ?_; clear hS; intro b5 w hS
   refine salloc hS Tryz.zeroValue41 rfl ?_; clear hS; intro b6 w hS
   refine sst hS rfl rfl Tryz.sizeOf41 rfl rfl rfl rfl ?_; clear hS; intro w hS
   refine sst hS rfl rfl Tryz.sizeOf41 rfl rfl rfl rfl ?_; clear hS; intro w hS
   refine nil ?_
   show Code.wpIn _ _ _ _ _ _ _
   refine region_anyX (C := (fun w => w.heap[b2]? = some (.cells ([v] : List Value).toArray 110 (0, 0)) ∧ w.heap[b3]? = some (.cells (chC xc : List Value).toArray 113 (0, 0)) ∧ w.heap[b1]? = some (.cells ([.pointer (some ⟨bk, 0, none⟩)] : List Value).toArray 107 (0, 0)) ∧ w.heap[bk]? = some (.cells ([.int .i64 t.table.mean, cv, .slice ag t.gauges.length cg, .int .i64 t.wrong, .int .i64 t.frm, .int .i64 t.ticks, .slice ak t.ctrs.length ck, .slice ae t.fcs.length ce, .int .i64 t.least, .int .i64 t.most, .int .i64 t.rate, .int .i64 t.quorum, .int .i64 now, .slice aw t.ticks.toNat cw, .slice ax t.ctrs.length cx, ov'] : List Value).toArray 123 (0, 0)) ∧ w.heap[b5]? = some (.cells ([.int .i64 t.frm, .slice alv t.ticks.toNat clv] : List Value).toArray 41 (0, 0)) ∧ w.heap[b6]? = some (.cells ([.int .i64 t.frm, .slice ahv t.ticks.toNat chv] : List Value).toArray 41 (0, 0)))) mixed 0 15 (by kernel_rfl) rfl hS (fun w hS => ⟨hS.at b2, hS.at b3, hS.at b1, hS.at bk, hS.at b5, hS.at b6⟩) ?_
   clear hS; intro w hS
   refine hnil <| f_step 0 (by kernel_rfl) rfl (fun _ _ _ _ h => False.elim h) ⟨hS.at b2, hS.at b3, hS.at b1, hS.at bk, hS.at b5, hS.at b6⟩ (fun w hS => (yLdB rfl Tryz.isAgg110 hS.1 rfl)) <| f_step 1 (by kernel_rfl) rfl (fun _ _ _ _ h => False.elim h) ⟨hS.at b2, hS.at b3, hS.at b1, hS.at bk, hS.at b5, hS.at b6⟩ (fun w hS => (yLdBA rfl Tryz.isAgg113 Tryz.sizeOf113 hS.2.1 rfl rfl)) <| f_step 2 (by kernel_rfl) rfl (fun _ _ _ _ h => False.elim h) ⟨hS.at b2, hS.at b3, hS.at b1, hS.at bk, hS.at b5, hS.at b6⟩ (fun w hS => (yLdB rfl Tryz.isAgg107 hS.2.2.1 rfl)) <| f_step 3 (by kernel_rfl) rfl (fun _ _ _ _ h => False.elim h) ⟨hS.at b2, hS.at b3, hS.at b1, hS.at bk, hS.at b5, hS.at b6⟩ (fun w hS => (yNil rfl)) <| f_step 4 (by kernel_rfl) rfl (fun _ _ _ _ h => False.elim h) ⟨hS.at b2, hS.at b3, hS.at b1, hS.at bk, hS.at b5, hS.at b6⟩ (fun w hS => (fa123_3 rfl)) <| f_step 5 (by kernel_rfl) rfl (fun _ _ _ _ h => False.elim h) ⟨hS.at b2, hS.at b3, hS.at b1, hS.at bk, hS.at b5, hS.at b6⟩ (fun w hS => (yLdB rfl Tryz.isAgg39 hS.2.2.2.1 rfl)) ?_
   refine f_step 6 (by kernel_rfl) rfl (fun _ _ _ _ h => False.elim h) ⟨hS.at b2, hS.at b3, hS.at b1, hS.at bk, hS.at b5, hS.at b6⟩ (fun w hS => (yLen rfl Tryz.underlying39)) <| f_step 7 (by kernel_rfl) rfl (fun _ _ _ _ h => False.elim h) ⟨hS.at b2, hS.at b3, hS.at b1, hS.at bk, hS.at b5, hS.at b6⟩ (fun w hS => (ySlA (j := t.ctrs.length) (m := 4) rfl rfl Tryz.runUnderlying113 Tryz.sizeOf3 (by omega))) <| f_step 9 (by kernel_rfl) rfl (fun _ _ _ _ h => False.elim h) ⟨hS.at b2, hS.at b3, hS.at b1, hS.at bk, hS.at b5, hS.at b6⟩ (fun w hS => (yLdBA rfl Tryz.isAgg41 Tryz.sizeOf41 hS.2.2.2.2.1 rfl rfl)) <| f_step 10 (by kernel_rfl) rfl (fun _ _ _ _ h => False.elim h) ⟨hS.at b2, hS.at b3, hS.at b1, hS.at bk, hS.at b5, hS.at b6⟩ (fun w hS => (yLdBA rfl Tryz.isAgg41 Tryz.sizeOf41 hS.2.2.2.2.2 rfl rfl)) <| awQ <| a1Q 8 (by kernel_rfl) rfl ?_
   refine sappS (bytes := 8) (size := 1) (news := xc.flatMap Bx.encI) (hS.nilrow 3 1) rfl rfl Tryz.underlying39 ti3 rfl rfl rfl rfl (by decide) Tryz.sizeOf3 (fun hh => ⟨b3, 0, rfl, cho_cells (hS.at b3) hxl (by omega)⟩) (by rw [flat_len encI_len, hxl]) (ints_one _) (by omega) (by omega) ?_; clear hS; intro v44 w hS; rw [Nat.zero_add, List.nil_append] at hS
   obtain ⟨a44, c44, rfl⟩ := row_shape (hS.row v44)
   refine nil ?_
   refine ⟨fun _ => ⟨hS.at b2, hS.at b3, hS.at b1, hS.at bk, hS.at b5, hS.at b6⟩, ?_⟩
   refine awQ <| f_step 11 (by kernel_rfl) rfl (fun _ _ _ _ h => False.elim h) ⟨hS.at b2, hS.at b3, hS.at b1, hS.at bk, hS.at b5, hS.at b6⟩ (fun w hS => (yBuild Tryz.zeroValue43 rfl pl43 (.cons rfl rfl (.cons rfl rfl (.cons rfl rfl .nil))) rfl)) <| f_step 12 (by kernel_rfl) rfl (fun _ _ _ _ h => False.elim h) ⟨hS.at b2, hS.at b3, hS.at b1, hS.at bk, hS.at b5, hS.at b6⟩ (fun w hS => (yBuild Tryz.zeroValue115 rfl pl115 (.cons rfl rfl (.cons rfl rfl .nil)) rfl)) <| awQ <| a1Q 13 (by kernel_rfl) rfl ?_
   refine sbslice hS Tryz.underlying110 Tryz.sizeOf115 rfl Tryz.zeroValue115 rfl (.cons rfl rfl .nil) rfl ?_; clear hS; intro b49 w hS
   refine nil ?_
   refine ⟨fun _ => ⟨hS.at b2, hS.at b3, hS.at b1, hS.at bk, hS.at b5, hS.at b6⟩, ?_⟩
   refine awQ <| awQ <| a1Q 14 (by kernel_rfl) rfl ?_
   refine sapp (bytes := 120) (size := 9) (v := v) (m := 1) hS rfl rfl Tryz.underlying110 ti115 rfl rfl rfl rfl (by decide) (blk_cells (hS.at _)) rfl rfl (by omega) (by omega) ?_; clear hS; intro v50 w hS
   refine nil ?_
   refine ⟨fun _ => ⟨hS.at b2, hS.at b3, hS.at b1, hS.at bk, hS.at b5, hS.at b6⟩, ?_⟩
   refine awQ <| awQ <| a1Q 15 (by kernel_rfl) rfl ?_
   obtain ⟨a50, c50, rfl⟩ := row_shape (hS.row v50)
   refine sst hS rfl rfl Tryz.sizeOf110 rfl rfl rfl rfl ?_; clear hS; intro w hS
   refine nil ?_
   refine ⟨fun h => absurd h (by decide), ?_⟩
   refine awQ <| a_end (by kernel_rfl) ?_
   exact ⟨_, ⟨rfl, _, ms ++ [.slice a44 t.ctrs.length c44], ls ++ [.slice alv t.ticks.toNat clv], hs ++ [.slice ahv t.ticks.toNat chv], by rw [bl_yes hst]; simp [hl1], by rw [bl_yes hst]; simp [hl2], by rw [bl_yes hst]; simp [hl3], rfl⟩, (by rw [bl_yes hst]; exact bxEnd ⟨xc, tightS t.rate xs2⟩ hxl (by simp [lowB, losS, tightS_len, hxn]) (by simp [highB, hisS, tightS_len, hxn]) hl1 hl2 hl3 hS)⟩
 ·
  clear hS
  intro D w L xs hZ hcb hS
  obtain ⟨-, v, ms, ls, hs, hl1, hl2, hl3, rfl⟩ := hcb
  rw [bl_all hZ] at hl1 hl2 hl3 hS
  replace hS : StX [] w0 w (obj D (.deferred (some [])) :: rowI (v) 115 9 (boxS t now).length (bxCs t.frm ((boxS t now).map Bo.mem) ms ls hs).flatten :: packI (inI ms ((boxS t now).map Bo.mem)) :: packI (inI ls ((boxS t now).map lowB)) :: packI (inI hs ((boxS t now).map highB)) :: rowI (.slice (some ⟨go, 0, none⟩) t.ticks.toNat co) 74 2 t.ticks.toNat ((baseS t now).flatMap spanC) :: blk bk [.int .i64 t.table.mean, cv, .slice ag t.gauges.length cg, .int .i64 t.wrong, .int .i64 t.frm, .int .i64 t.ticks, .slice ak t.ctrs.length ck, .slice ae t.fcs.length ce, .int .i64 t.least, .int .i64 t.most, .int .i64 t.rate, .int .i64 t.quorum, .int .i64 now, .slice aw t.ticks.toNat cw, .slice ax t.ctrs.length cx, ov'] 123 :: rowI (ov') 74 2 t.ticks.toNat ((baseS t now).flatMap spanC) :: rowI (.slice aw t.ticks.toNat cw) 74 2 t.ticks.toNat ((tidesS t).flatMap spanC) :: rowI (.slice ax t.ctrs.length cx) 3 1 t.ctrs.length ((curS t now).flatMap Bx.encI) :: blk b2 [v] 110 :: blk b1 [.pointer (some ⟨bk, 0, none⟩)] 107 :: L9) := hS
  show Code.wpIn _ _ _ _ _ _ _
  refine seqX <| regionX rfl ?_
  obtain ⟨av, cv2, rfl⟩ := row_shape (hS.row v)
  refine sv (yLdB rfl Tryz.isAgg110 (hS.at _) rfl) ?_
  refine sst hS rfl rfl Tryz.sizeOf110 rfl rfl rfl rfl ?_; clear hS; intro w hS
  refine nil ?_
  show Code.wpIn _ _ _ _ _ _ _
  refine wpIn_ret ?_
  refine leafD hS (fun w hS => (resV1 rfl (rc1 rfl Tryz.isAgg110 (hS.at b2) rfl))) (fun w hS => ?_)
  exact ⟨_, ms, ls, hs, hl1, hl2, hl3, hS.sub (.cons _ (.cons_cons _ (.cons_cons _ (.cons_cons _ (.cons_cons _ (.cons _ (.cons_cons _ (.cons_cons _ (.cons_cons _ (.cons_cons _ (.cons _ (.cons _ lrQ))))))))))))⟩
 ·
  intro D w L c pre hcb hS; exact absurd hcb.1 (by simp)
end Go.Proofs.YtgidbailiababaaGreatDoor

/- part S15 -/
namespace Go.Proofs.YtgidbailiababaaGreatDoor
open Go Bx
variable {ρ : Operand → Value} {w : World} {ty : TypeId}
theorem eqInCh {a0 b0 a1 b1 a2 b2 a3 b3 : Int} : (Op.equalIn 10000 113 (.agg #[.int .i64 a0, .int .i64 a1, .int .i64 a2, .int .i64 a3]) (.agg #[.int .i64 b0, .int .i64 b1, .int .i64 b2, .int .i64 b3])).run Tryz.prog w = .ok (decide (a0 = b0) && decide (a1 = b1) && decide (a2 = b2) && decide (a3 = b3)) w := by
  have u3 := Tryz.underlying3
  have g3 := Tryz.isAgg3
  have z3 := Tryz.sizeOf3
  rw [show (10000 : Nat) = 9999 + 1 from rfl, run_equalIn_array (P := Tryz.prog) w 9999 _ _ Tryz.underlying113 ti3]
  rw [show Tryz.prog.cellsOf 3 = 1 by kernel_rfl, show List.range 4 = [0, 1, 2, 3] from rfl]
  simp only [Op.eqItems]
  go_simp
  by_cases h0 : a0 = b0 <;> by_cases h1 : a1 = b1 <;> by_cases h2 : a2 = b2 <;> by_cases h3 : a3 = b3 <;> simp [h0, h1, h2, h3]
theorem chC_inj : ∀ {a b : List Int}, a.length = b.length → b.length ≤ 4 → ((decide (a.getD 0 0 = b.getD 0 0) && decide (a.getD 1 0 = b.getD 1 0) && decide (a.getD 2 0 = b.getD 2 0) && decide (a.getD 3 0 = b.getD 3 0)) = decide (a = b))
  | [], [], _, _ => by simp
  | [a], [b], _, _ => by simp
  | [a, a2], [b, b2], _, _ => by simp [Bool.and_assoc]
  | [a, a2, a3], [b, b2, b3], _, _ => by simp [Bool.and_assoc]
  | [a, a2, a3, a4], [b, b2, b3, b4], _, _ => by simp [Bool.and_assoc]
  | [], _ :: _, h, _ => by simp at h
  | _ :: _, [], h, _ => by simp at h
  | [_], _ :: _ :: _, h, _ => by simp at h
  | _ :: _ :: _, [_], h, _ => by simp at h
  | [_, _], _ :: _ :: _ :: _, h, _ => by simp at h
  | _ :: _ :: _ :: _, [_, _], h, _ => by simp at h
  | [_, _, _], _ :: _ :: _ :: _ :: _, h, _ => by simp at h
  | _ :: _ :: _ :: _ :: _, [_, _, _], h, _ => by simp at h
  | _, _ :: _ :: _ :: _ :: _ :: _, _, h => by simp at h
  | _ :: _ :: _ :: _ :: _ :: _, [_, _, _, _], h, _ => by simp at h
theorem neCh0 {x y : Operand} {t : TypeId} {a0 b0 a1 b1 a2 b2 a3 b3 : Int} (hx : ρ x = .agg #[.int .i64 a0, .int .i64 a1, .int .i64 a2, .int .i64 a3]) (hy : ρ y = .agg #[.int .i64 b0, .int .i64 b1, .int .i64 b2, .int .i64 b3]) : Y Tryz.prog ρ (.binOp .neq 113 x y t) ty w (.bool (!(decide (a0 = b0) && decide (a1 = b1) && decide (a2 = b2) && decide (a3 = b3)))) w := by
  have hg := run_eqGuard_agg (P := Tryz.prog) w .neq 113 x y #[.int .i64 a0, .int .i64 a1, .int .i64 a2, .int .i64 a3] #[.int .i64 b0, .int .i64 b1, .int .i64 b2, .int .i64 b3] (by kernel_rfl)
  have he := run_neq_struct (P := Tryz.prog) w 113 #[.int .i64 a0, .int .i64 a1, .int .i64 a2, .int .i64 a3] #[.int .i64 b0, .int .i64 b1, .int .i64 b2, .int .i64 b3]
  rw [eqInCh] at he
  simp only [Result.andThen_ok] at he
  simp [Y, xop, execOp, hx, hy, hg, he]
theorem neCh {x y : Operand} {t : TypeId} {a b : List Int} (hx : ρ x = .agg (chC a).toArray) (hy : ρ y = .agg (chC b).toArray) (hl : a.length = b.length) (h4 : b.length ≤ 4) : Y Tryz.prog ρ (.binOp .neq 113 x y t) ty w (.bool (decide (a ≠ b))) w :=
  Y.to (neCh0 hx hy) (by rw [chC_inj hl h4]; simp)
end Go.Proofs.YtgidbailiababaaGreatDoor
namespace Bx
open Go Go.RowKit
section
variable {w : World} {frm : Int} {B : TypeId} {v : Value} {bs : List Bo} {ms ls hs : List Value}
theorem bxCs_get : ∀ {cs : List (List Int)} {ms ls hs : List Value} {k : Nat}, k < cs.length → ms.length = cs.length → ls.length = cs.length → hs.length = cs.length → (bxCs frm cs ms ls hs)[k]? = some (bxC frm (cs.getD k []) (ms.getD k undef) (ls.getD k undef) (hs.getD k undef))
  | c :: cs, m :: ms, l :: ls, h :: hs, 0, _, _, _, _ => rfl
  | c :: cs, m :: ms, l :: ls, h :: hs, k + 1, hk, h1, h2, h3 => by
    show (bxCs frm cs ms ls hs)[k]? = _
    rw [bxCs_get (k := k) (by simpa using hk) (by simpa using h1) (by simpa using h2) (by simpa using h3)]
    rfl
  | [], _, _, _, _, hk, _, _, _ => by simp at hk
  | _ :: _, [], _, _, _, _, h, _, _ => by simp at h
  | _ :: _, _ :: _, [], _, _, _, _, h, _ => by simp at h
  | _ :: _, _ :: _, _ :: _, [], _, _, _, _, h => by simp at h
theorem bxCs_w {cs : List (List Int)} {ms ls hs : List Value} : ∀ x ∈ bxCs frm cs ms ls hs, x.length = 9 := by
  induction cs generalizing ms ls hs with
  | nil => intro x hx; cases ms <;> cases ls <;> cases hs <;> simp [bxCs] at hx
  | cons c cs ih => intro x hx; cases ms <;> cases ls <;> cases hs <;> simp only [bxCs, List.not_mem_nil, List.mem_cons] at hx; rcases hx with rfl | hx; rfl; exact ih x hx
theorem flatten_at {k : Nat} : ∀ {css : List (List Value)} {i : Nat} {cs : List Value}, (∀ x ∈ css, x.length = k) → css[i]? = some cs → ∀ j u, cs[j]? = some u → css.flatten[i * k + j]? = some u
  | c :: css, 0, cs, hw, h, j, u, hu => by
    obtain rfl : c = cs := by simpa using h
    have hj := (List.getElem?_eq_some_iff.1 hu).1
    rw [List.flatten_cons, Nat.zero_mul, Nat.zero_add, List.getElem?_append_left hj]; exact hu
  | c :: css, i + 1, cs, hw, h, j, u, hu => by
    have hc := hw c (List.mem_cons_self ..)
    rw [List.flatten_cons, List.getElem?_append_right (by rw [hc, Nat.succ_mul]; omega), show (i + 1) * k + j - c.length = i * k + j by rw [hc, Nat.succ_mul]; omega]
    exact flatten_at (fun x hx => hw x (List.mem_cons_of_mem _ hx)) (by simpa using h) j u hu
  | [], _, _, _, h, _, _, _ => by simp at h
theorem bx_cells {n cap : Nat} {a : Option Addr} (hrow : w.ownsRow 0 B 9 (.slice a n cap) n (bxCs frm (bs.map Bo.mem) ms ls hs).flatten) {k : Nat} (hk : k < bs.length) (hn : bs.length = n) (h1 : ms.length = bs.length) (h2 : ls.length = bs.length) (h3 : hs.length = bs.length) :
    ∃ g, a = some ⟨g, 0, none⟩ ∧ Cells w g (k * 9) (bxC frm (boxAt bs k).mem (ms.getD k undef) (ls.getD k undef) (hs.getD k undef)) := by
  obtain ⟨g, rfl, hc⟩ := row_get hrow (by omega)
  refine ⟨g, rfl, fun j u hu => ?_⟩
  have hg := bxCs_get (frm := frm) (cs := bs.map Bo.mem) (ms := ms) (ls := ls) (hs := hs) (k := k) (by simpa using hk) (by simpa using h1) (by simpa using h2) (by simpa using h3)
  have e : (bs.map Bo.mem).getD k [] = (boxAt bs k).mem := by
    unfold boxAt
    simp [List.getD, hk]
  rw [e] at hg
  have := hc _ _ (flatten_at bxCs_w hg j u hu)
  rwa [Nat.zero_add] at this
theorem in_sl {f : Bo → List Int} {vs : List Value} (hi : ∀ it ∈ inI vs (bs.map f), it.ok w) (hl : vs.length = bs.length) {k : Nat} (hk : k < bs.length) (hb : ∀ x ∈ f (boxAt bs k), I64 x) : Sl w 1 RInt (vs.getD k undef) (f (boxAt bs k)) := by
  have h1 : vs[k]? = some (vs.getD k undef) := by simp [List.getD, show k < vs.length by omega]
  have h2 : (bs.map f)[k]? = some (f (boxAt bs k)) := by rw [List.getElem?_map, boxAt_get hk]; rfl
  have h3 : w.ownsRow 0 3 1 (vs.getD k undef) (f (boxAt bs k)).length ((f (boxAt bs k)).flatMap encI) := hi _ (inI_get h1 h2)
  exact sl_ints h3 rfl hb
theorem bx_sl {n : Nat} (hrow : w.ownsRow 0 B 9 v n (bxCs frm (bs.map Bo.mem) ms ls hs).flatten) (hn : bs.length = n) (h1 : ms.length = bs.length) (h2 : ls.length = bs.length) (h3 : hs.length = bs.length) (hb : ∀ b ∈ bs, b.mem.length ≤ 4 ∧ (∀ x ∈ b.mem, I64 x) ∧ (∀ x ∈ lowB b, I64 x) ∧ ∀ x ∈ highB b, I64 x)
    (i1 : ∀ it ∈ inI ms (bs.map Bo.mem), it.ok w) (i2 : ∀ it ∈ inI ls (bs.map lowB), it.ok w) (i3 : ∀ it ∈ inI hs (bs.map highB), it.ok w) : Sl w 9 (RBx frm) v bs :=
  sl_of_row hrow (bxCs_rows h1 h2 h3 hb i1 i2 i3) hn
def keepK (all : List Bo) (k : Nat) : List Nat := (List.range k).filter fun i => !outBx all i (boxAt all i)
def posC (frm : Int) (all : List Bo) (hs : List Value) (k : Nat) : List Value := (keepK all k).flatMap fun i => [.int .i64 frm, hs.getD i undef]
theorem posK_eq (all : List Bo) (k : Nat) : posK all k = (keepK all k).map fun i => highB (boxAt all i) := rfl
theorem keepK_lt {all : List Bo} {k i : Nat} (h : i ∈ keepK all k) : i < k := List.mem_range.1 (List.mem_filter.1 h).1
theorem keepK_yes {all : List Bo} {k : Nat} (h : outBx all k (boxAt all k) = false) : keepK all (k + 1) = keepK all k ++ [k] := by
  unfold keepK
  rw [List.range_succ, List.filter_append]
  simp [h]
theorem keepK_no {all : List Bo} {k : Nat} (h : outBx all k (boxAt all k) = true) : keepK all (k + 1) = keepK all k := by
  unfold keepK
  rw [List.range_succ, List.filter_append]
  simp [h]
theorem posK_yes {all : List Bo} {k : Nat} (h : outBx all k (boxAt all k) = false) : (posK all (k + 1)).length = (posK all k).length + 1 := by rw [posK_eq, posK_eq, keepK_yes h]; simp
theorem posK_no {all : List Bo} {k : Nat} (h : outBx all k (boxAt all k) = true) : posK all (k + 1) = posK all k := by rw [posK_eq, posK_eq, keepK_no h]
theorem posC_yes {all : List Bo} {k : Nat} (h : outBx all k (boxAt all k) = false) : posC frm all hs (k + 1) = posC frm all hs k ++ [.int .i64 frm, hs.getD k undef] := by unfold posC; rw [keepK_yes h]; simp
theorem posC_no {all : List Bo} {k : Nat} (h : outBx all k (boxAt all k) = true) : posC frm all hs (k + 1) = posC frm all hs k := by unfold posC; rw [keepK_no h]
theorem posK_le {all : List Bo} {k : Nat} : (posK all k).length ≤ k := by
  rw [posK_eq, List.length_map]
  have := List.length_filter_le (fun i => !outBx all i (boxAt all i)) (List.range k)
  rwa [List.length_range] at this
theorem pos_sl {E : TypeId} {u : Value} {n : Nat} (hrow : w.ownsRow 0 E 2 u n (posC frm bs hs bs.length)) (hn : (posK bs bs.length).length = n) (hfr : I64 frm) (h3 : hs.length = bs.length) (hb : ∀ b ∈ bs, b.mem.length ≤ 4 ∧ (∀ x ∈ b.mem, I64 x) ∧ (∀ x ∈ lowB b, I64 x) ∧ ∀ x ∈ highB b, I64 x)
    (i3 : ∀ it ∈ inI hs (bs.map highB), it.ok w) : Sl w 2 RSer u ((posK bs bs.length).map (Ser.mk frm)) := by
  have key : ∀ is : List Nat, (∀ i ∈ is, i < bs.length) → Bx.Rows w 2 RSer (is.map fun i => [.int .i64 frm, hs.getD i undef]) ((is.map fun i => highB (boxAt bs i)).map (Ser.mk frm)) := by
    intro is
    induction is with
    | nil => intro _; trivial
    | cons i is ih =>
      intro h
      have hi := h i (List.mem_cons_self ..)
      refine ⟨rfl, ⟨_, rfl, hfr, in_sl i3 h3 hi (hb _ (List.mem_of_getElem? (boxAt_get hi))).2.2.2⟩, ih fun j hj => h j (List.mem_cons_of_mem _ hj)⟩
  have hflat : posC frm bs hs bs.length = ((keepK bs bs.length).map fun i => [Value.int .i64 frm, hs.getD i undef]).flatten := by unfold posC; rw [List.flatMap_def]
  rw [hflat] at hrow
  exact sl_of_row hrow (key _ fun i hi => keepK_lt hi) (by rw [List.length_map]; exact hn)
end
end Bx

/- part Sx2 -/
namespace Go.Proofs.YtgidbailiababaaGreatDoor
open Go Bx
set_option maxHeartbeats 1000000 in
theorem c_below {f1 f2 : Int} {va vb : Value} {a b : List Int} {w0 : World} (ha : Sl w0 1 RInt va a) (hb : Sl w0 1 RInt vb b) (hl : a.length = b.length) : CV Tryz.prog 126 #[.agg [.int .i64 f1, va].toArray, .agg [.int .i64 f2, vb].toArray] w0 (.bool (belowB a b)) := by
 obtain ⟨aa, ca, rfl, hacap, hamx, -⟩ := id ha
 obtain ⟨ab, cb, rfl, -⟩ := id hb
 refine enter Tryz.func126 rfl Tryz.ntmps126 rfl ?_
 have hS := St.start w0
 refine seq <| region ?_
 refine sbox hS rfl rfl ?_; clear hS; intro b2 w hS
 refine sbox hS rfl rfl ?_; clear hS; intro b3 w hS
 refine sv (yAsg rfl) <| nil <| cwQ <| seq <| seq <| region <| sv (fa41_1 rfl) <| sv (yLdB rfl Tryz.isAgg39 (hS.at _) rfl) <| sv (yLen rfl Tryz.underlying39) ?_
 refine sv (yMove rfl) <| nil <| cwQ <| block <| loop (fun f w zz => ∃ (k : Nat), f 3 = .pointer (some ⟨b3, 0, none⟩) ∧ f 8 = .slice aa a.length ca ∧ f 9 = .int .i64 (a.length : Int) ∧ f 10 = .int .i64 (k : Int) ∧ StX [] w0 w [blk b3 [.int .i64 f2, .slice ab b.length cb] 41, blk b2 [.int .i64 f1, .slice aa a.length ca] 41] ∧ (k ≤ a.length) ∧ (∀ i, i < k → a.getD i 0 ≤ b.getD i 0) ∧ zz = a.length - k) _ ⟨_, rfl, 0, rfl, rfl, rfl, rfl, hS, (Nat.zero_le _), (fun i hi => absurd hi (Nat.not_lt_zero _)), rfl⟩ ?_
 clear hS
 rintro f w _ ⟨k, h3, h8, h9, h10, hS, hk, hA, rfl⟩
 refine seq <| region <| sv (yLss h10 h9) <| nil <| cwQ <| seq ?_
 refine cond rfl (fun c11 => ?_) (fun c11 => ?_)
 ·
  simp only [BS, ne_eq] at c11
  have hkl : k < a.length := by omega
  obtain ⟨bx, ox, cx, hax, hlx, hcx, hRx, -⟩ := sl_at ha (show a[k]? = some (a.getD k 0) by simp [hkl])
  obtain ⟨rfl, -⟩ := hRx
  obtain ⟨by0, oy, cy, hay, hly, hcy, hRy, -⟩ := sl_at hb (show b[k]? = some (b.getD k 0) by simp [show k < b.length by omega])
  obtain ⟨rfl, -⟩ := hRy
  refine skip <| cwQ <| seq <| block <| seq <| region <| sv (yMove h10) <| sv (yIxa h8 hax h10 Tryz.runUnderlying39 Tryz.sizeOf3 (by omega) (by omega)) <| sv (yLd rfl Tryz.isAgg3 (hcx.ext hS.ext).one) ?_
  refine sv (yAsg rfl) <| sv (yAsg rfl) <| nil <| cwQ <| seq <| region <| sv (yMove rfl) <| sv (fa41_1 h3) <| sv (yLdB rfl Tryz.isAgg39 (hS.at _) rfl) ?_
  refine sv (yMove rfl) <| sv (yIxa rfl hay rfl Tryz.runUnderlying39 Tryz.sizeOf3 (by omega) (by omega)) <| sv (yLd rfl Tryz.isAgg3 (hcy.ext hS.ext).one) <| sv (yGtr rfl rfl) <| nil <| cwQ ?_
  refine cond rfl (fun c21 => ?_) (fun c21 => ?_)
  ·
   simp only [BS, ne_eq] at c21
   refine seq <| region <| sv (yAsg rfl) <| nil <| cwQ ?_
   refine wp_ret (blockR (thenR (thenR (blockR (thenR ?_)))))
   exact retV (res1 rfl (congrArg Value.bool (show false = belowB a b from ((Bool.eq_false_iff).2 (fun hh => by have := belowB_iff.1 hh k hkl; omega)).symm))) hS.ext
  ·
   simp only [BS, ne_eq] at c21
   refine skip <| cwQ <| region <| sv (yAdd h10 rfl ⟨by omega, by omega⟩) <| sv (yMove rfl) <| nil ?_
   exact ⟨_, _, rfl, ⟨k + 1, h3, h8, h9, rfl, hS, (by omega), (fun i hi => by by_cases e : i = k; subst e; omega; exact hA i (by omega)), rfl⟩, by omega⟩
 ·
  simp only [BS, ne_eq] at c11
  obtain rfl : k = a.length := by omega
  refine exit <| cwQ <| seq <| region <| sv (yAsg rfl) <| nil <| cwQ <| wp_ret ?_
  exact retV (res1 rfl (congrArg Value.bool (show true = belowB a b from (belowB_iff.2 hA).symm))) hS.ext
set_option maxHeartbeats 1000000 in
theorem c_EqualI {va vb : Value} {a b : List Int} {w0 : World} (ha : Sl w0 1 RInt va a) (hb : Sl w0 1 RInt vb b) : CV Tryz.prog 128 #[va, vb] w0 (.bool (decide (a = b))) := by
 obtain ⟨aa, ca, rfl, hacap, hamx, -⟩ := id ha
 obtain ⟨ab, cb, rfl, -⟩ := id hb
 refine enter Tryz.func128 rfl Tryz.ntmps128 rfl ?_
 have hS := St.start w0
 refine seq <| region <| sv (yAsg rfl) <| nil <| cwQ <| seq <| seq <| region <| sv (yMove rfl) ?_
 refine sv (yLen rfl Tryz.underlying39) <| sv (yMove rfl) <| sv (yLen rfl Tryz.underlying39) <| sv (yNeq rfl rfl) <| nil <| cwQ ?_
 refine cond rfl (fun c10 => ?_) (fun c10 => ?_)
 ·
  simp only [BS, ne_eq] at c10
  refine seq <| region <| sv (yAsg rfl) <| nil <| cwQ ?_
  refine wp_ret (thenR ?_)
  exact retV (res1 rfl (congrArg Value.bool (show false = decide (a = b) from (decide_eq_false (fun e => by rw [e] at c10; exact c10 rfl)).symm))) hS.ext
 ·
  simp only [BS, ne_eq] at c10
  have hl : a.length = b.length := by omega
  refine skip <| cwQ <| seq <| seq <| region <| sv (yMove rfl) <| sv (yLen rfl Tryz.underlying39) <| sv (yMove rfl) <| nil ?_
  refine cwQ <| block <| loop (fun f w zz => ∃ (k : Nat), f 0 = .slice aa a.length ca ∧ f 1 = .slice ab b.length cb ∧ f 12 = .int .i64 (a.length : Int) ∧ f 13 = .int .i64 (k : Int) ∧ StX [] w0 w [] ∧ (k ≤ a.length) ∧ (∀ i, i < k → a[i]? = b[i]?) ∧ zz = a.length - k) _ ⟨_, rfl, 0, rfl, rfl, rfl, rfl, hS, (Nat.zero_le _), (fun i hi => absurd hi (Nat.not_lt_zero _)), rfl⟩ ?_
  clear hS
  rintro f w _ ⟨k, h0, h1, h12, h13, hS, hk, hA, rfl⟩
  refine seq <| region <| sv (yLss h13 h12) <| nil <| cwQ <| seq ?_
  refine cond rfl (fun c14 => ?_) (fun c14 => ?_)
  ·
   simp only [BS, ne_eq] at c14
   have hkl : k < a.length := by omega
   obtain ⟨bx, ox, cx, hax, hlx, hcx, hRx, -⟩ := sl_at ha (show a[k]? = some (a.getD k 0) by simp [hkl])
   obtain ⟨rfl, -⟩ := hRx
   obtain ⟨by0, oy, cy, hay, hly, hcy, hRy, -⟩ := sl_at hb (show b[k]? = some (b.getD k 0) by simp [show k < b.length by omega])
   obtain ⟨rfl, -⟩ := hRy
   refine skip <| cwQ <| seq <| block <| seq <| region <| sv (yMove h13) <| sv (yAsg rfl) <| nil ?_
   refine cwQ <| seq <| region_draw mixed (by kernel_rfl) hS <| qv (fun w hS => (yMove h0)) <| qv (fun w hS => (yMove rfl)) <| qv (fun w hS => (yIxa rfl hax rfl Tryz.runUnderlying39 Tryz.sizeOf3 (by omega) (by omega))) <| qv (fun w hS => (yLd rfl Tryz.isAgg3 (hcx.ext hS.ext).one)) <| qv (fun w hS => (yMove h1)) <| qv (fun w hS => (yMove rfl)) ?_
   refine qv (fun w hS => (yIxa rfl hay rfl Tryz.runUnderlying39 Tryz.sizeOf3 (by omega) (by omega))) <| qv (fun w hS => (yLd rfl Tryz.isAgg3 (hcy.ext hS.ext).one)) <| qv (fun w hS => (yNeq rfl rfl)) ?_
   clear hS; refine qnil (fun w hS => ?_)
   refine cwQ ?_
   refine cond rfl (fun c24 => ?_) (fun c24 => ?_)
   ·
    simp only [BS, ne_eq] at c24
    refine seq <| region <| sv (yAsg rfl) <| nil <| cwQ ?_
    refine wp_ret (blockR (thenR (thenR (blockR (thenR ?_)))))
    exact retV (res1 rfl (congrArg Value.bool (show false = decide (a = b) from (decide_eq_false (fun e => by rw [e] at c24; exact c24 rfl)).symm))) hS.ext
   ·
    simp only [BS, ne_eq] at c24
    refine skip <| cwQ <| region <| sv (yAdd h13 rfl ⟨by omega, by omega⟩) <| sv (yMove rfl) <| nil ?_
    exact ⟨_, _, rfl, ⟨k + 1, h0, h1, h12, rfl, hS, (by omega), (fun i hi => by
     by_cases e : i = k
     ·
      subst e
      rw [List.getElem?_eq_getElem hkl, List.getElem?_eq_getElem (show i < b.length by omega)]
      have e1 : a.getD i 0 = a[i] := by simp [hkl]
      have e2 : b.getD i 0 = b[i] := by simp [show i < b.length by omega]
      congr 1; omega
     ·
      exact hA i (by omega)), rfl⟩, by omega⟩
  ·
   simp only [BS, ne_eq] at c14
   obtain rfl : k = a.length := by omega
   refine exit <| cwQ <| seq <| region <| sv (yAsg rfl) <| nil <| cwQ <| wp_ret ?_
   exact retV (res1 rfl (congrArg Value.bool (show true = decide (a = b) from (decide_eq_true (eq_of_get hl hA)).symm))) hS.ext
set_option maxHeartbeats 2000000 in
theorem c_clo1 {frm : Int} {x bb : Bo} {m l h m2 l2 h2 : Value} {b5 : Nat} {w0 : World} (hb5 : w0.heap[b5]? = some (.cells (bxC frm bb.mem m2 l2 h2).toArray 115 (0, 0))) (hml : x.mem.length = bb.mem.length) (hm4 : bb.mem.length ≤ 4) (hhx : Sl w0 1 RInt h (highB x)) (hhb : Sl w0 1 RInt h2 (highB bb)) (hln : (highB x).length = (highB bb).length) : CV Tryz.prog 125 #[.agg (bxC frm x.mem m l h).toArray, .pointer (some ⟨b5, 0, none⟩)] w0 (.bool ((decide (x.mem ≠ bb.mem) && belowB (highB bb) (highB x)) && !belowB (highB x) (highB bb))) := by
 refine enter Tryz.func125 rfl Tryz.ntmps125 rfl ?_
 have hS := St.start w0
 refine seq <| region ?_
 refine sbox hS rfl rfl ?_; clear hS; intro b2 w hS
 refine sv (yAsg rfl) <| nil <| cwQ <| seq <| region <| sv (fa115_0 rfl) <| sv (yLdBA rfl Tryz.isAgg113 Tryz.sizeOf113 (hS.at _) rfl rfl) <| sv (fa115_0 rfl) <| sv (yLdBA rfl Tryz.isAgg113 Tryz.sizeOf113 (hS.ext.get hb5) rfl rfl) ?_
 refine sv (neCh rfl rfl hml hm4) <| sv (yMove rfl) ?_
 refine sg rfl rfl rfl (fun g => (fa115_1 rfl)) (fun v10 g10 => ?_)
 refine sg rfl rfl rfl (fun g => (fa43_2 (g10.1 g))) (fun v11 g11 => ?_)
 refine sg rfl rfl rfl (fun g => (yLdBA (g11.1 g) Tryz.isAgg41 Tryz.sizeOf41 (hS.ext.get hb5) rfl rfl)) (fun v12 g12 => ?_)
 refine sg rfl rfl rfl (fun g => (fa115_1 rfl)) (fun v13 g13 => ?_)
 refine sg rfl rfl rfl (fun g => (fa43_2 (g13.1 g))) (fun v14 g14 => ?_)
 refine sg rfl rfl rfl (fun g => (yLdBA (g14.1 g) Tryz.isAgg41 Tryz.sizeOf41 (hS.at _) rfl rfl)) (fun v15 g15 => ?_)
 refine sgc hS rfl rfl rfl Tryz.call126 (fun g => (.cons (g12.1 g) (.cons (g15.1 g) .nil))) (fun g => (c_below (hhb.ext RInt.stays hS.ext) (hhx.ext RInt.stays hS.ext) hln.symm)) ?_; clear hS; intro v16 w hS g16
 refine sv (yAnd rfl (fun hB => (g16.1 hB)) rfl) <| sv (yMove rfl) ?_
 refine sg rfl rfl rfl (fun g => (fa115_1 rfl)) (fun v19 g19 => ?_)
 refine sg rfl rfl rfl (fun g => (fa43_2 (g19.1 g))) (fun v20 g20 => ?_)
 refine sg rfl rfl rfl (fun g => (yLdBA (g20.1 g) Tryz.isAgg41 Tryz.sizeOf41 (hS.at _) rfl rfl)) (fun v21 g21 => ?_)
 refine sg rfl rfl rfl (fun g => (fa115_1 rfl)) (fun v22 g22 => ?_)
 refine sg rfl rfl rfl (fun g => (fa43_2 (g22.1 g))) (fun v23 g23 => ?_)
 refine sg rfl rfl rfl (fun g => (yLdBA (g23.1 g) Tryz.isAgg41 Tryz.sizeOf41 (hS.ext.get hb5) rfl rfl)) (fun v24 g24 => ?_)
 refine sgc hS rfl rfl rfl Tryz.call126 (fun g => (.cons (g21.1 g) (.cons (g24.1 g) .nil))) (fun g => (c_below (hhx.ext RInt.stays hS.ext) (hhb.ext RInt.stays hS.ext) hln)) ?_; clear hS; intro v25 w hS g25
 refine sg rfl rfl rfl (fun g => (yNot (g25.1 g))) (fun v26 g26 => ?_)
 refine sv (yAnd rfl (fun hB => (g26.1 hB)) rfl) <| sv (yAsg rfl) <| nil <| cwQ <| wp_ret ?_
 exact retV (res1 rfl rfl) hS.ext
set_option maxHeartbeats 2000000 in
theorem c_clo2 {frm : Int} {x bb : Bo} {m l h m2 l2 h2 : Value} {b5 : Nat} {w0 : World} (hb5 : w0.heap[b5]? = some (.cells (bxC frm bb.mem m2 l2 h2).toArray 115 (0, 0))) (hml : x.mem.length = bb.mem.length) (hm4 : bb.mem.length ≤ 4) (hhx : Sl w0 1 RInt h (highB x)) (hhb : Sl w0 1 RInt h2 (highB bb)) (hln : (highB x).length = (highB bb).length) : CV Tryz.prog 127 #[.agg (bxC frm x.mem m l h).toArray, .pointer (some ⟨b5, 0, none⟩)] w0 (.bool (decide (highB x = highB bb))) := by
 refine enter Tryz.func127 rfl Tryz.ntmps127 rfl ?_
 have hS := St.start w0
 refine seq <| region ?_
 refine sbox hS rfl rfl ?_; clear hS; intro b2 w hS
 refine sv (yAsg rfl) <| nil <| cwQ <| seq <| region <| sv (fa115_1 rfl) <| sv (fa43_2 rfl) <| sv (fa41_1 rfl) <| sv (yLdB rfl Tryz.isAgg39 (hS.at _) rfl) ?_
 refine sv (fa115_1 rfl) <| sv (fa43_2 rfl) <| sv (fa41_1 rfl) <| sv (yLdB rfl Tryz.isAgg39 (hS.ext.get hb5) rfl) ?_
 refine scall Tryz.call128 (.cons rfl (.cons rfl .nil)) (c_EqualI (hhx.ext RInt.stays hS.ext) (hhb.ext RInt.stays hS.ext)) ?_
 rintro _ w ⟨rfl, hE⟩; replace hS := hS.step hE; clear hE
 refine sv (yAsg rfl) <| nil <| cwQ <| wp_ret ?_
 exact retV (res1 rfl rfl) hS.ext
theorem c_IndexBox {frm : Int} {l : List Bo} {p : Bo → Bool} {v : Value} {g : Nat} {cl : List Value} {w0 : World} (hsl : Sl w0 9 (RBx frm) v l) (hcall : ∀ ys w, (callFunc g ys).run Tryz.prog w = .ok (.enter g ys) w) (hp : ∀ x cs w, x ∈ l → Ext w0 w → (RBx frm) w cs x → CV Tryz.prog g (.agg cs.toArray :: cl).toArray w (.bool (p x))) : CV Tryz.prog 169 #[v, .func (.func g) #[] cl.toArray] w0 (.int .i64 (idxF p l 0)) := by
 obtain ⟨a, cap, rfl, hcap, hmx, hel⟩ := hsl
 refine enter Tryz.func169 rfl Tryz.ntmps169 rfl ?_
 have hS := St.start w0
 refine seq <| region <| sv (yAsg rfl) <| nil <| cwQ <| seq <| seq <| region <| sv (yMove rfl) ?_
 refine sv (yLen rfl Tryz.underlying110) <| sv (yMove rfl) <| nil <| cwQ <| block <| loop (fun f w zz => ∃ (k : Nat), f 0 = .slice a l.length cap ∧ f 1 = .func (.func g) #[] cl.toArray ∧ f 7 = .int .i64 (l.length : Int) ∧ f 8 = .int .i64 (k : Int) ∧ StX [] w0 w [] ∧ (k ≤ l.length) ∧ (idxF p l 0 = idxF p (l.drop k) k) ∧ zz = l.length - k) _ ⟨_, rfl, 0, rfl, rfl, rfl, rfl, hS, (Nat.zero_le _), (rfl), rfl⟩ ?_
 clear hS
 rintro f w _ ⟨k, h0, h1, h7, h8, hS, hk, hI, rfl⟩
 refine seq <| region <| sv (yLss h8 h7) <| nil <| cwQ <| seq ?_
 refine cond rfl (fun c9 => ?_) (fun c9 => ?_)
 ·
  simp only [BS, ne_eq] at c9
  refine skip <| cwQ <| seq <| block <| seq <| region <| sv (yMove h8) <| sv (yAsg rfl) <| nil ?_
  refine cwQ <| seq <| region ?_
  obtain ⟨x, hx, hd⟩ := drop_of (l := l) (k := k) (by omega)
  obtain ⟨b, o, cs, ha, hlen, hcs, hR⟩ := hel k (by omega)
  obtain rfl : x = l[k] := (List.getElem?_eq_some_iff.1 hx).2.symm
  refine sv (yMove h1) <| sv (yMove h0) <| sv (yMove rfl) <| sv (yIxa rfl ha rfl Tryz.runUnderlying110 Tryz.sizeOf115 (by omega) (by omega)) <| sv (yLdA rfl Tryz.isAgg115 Tryz.sizeOf115 (hcs.ext hS.ext) hlen) ?_
  refine scallf rfl hcall (.cons rfl .nil) (hp _ _ _ (List.getElem_mem _) hS.ext (RBx.stays frm _ _ _ _ hS.ext hR)) ?_
  rintro _ w ⟨rfl, hE⟩; replace hS := hS.step hE; clear hE
  refine nil <| cwQ ?_
  refine cond rfl (fun c16 => ?_) (fun c16 => ?_)
  ·
   refine seq <| region <| sv (yMove rfl) <| sv (yAsg rfl) <| nil <| cwQ ?_
   refine wp_ret (blockR (thenR (thenR (blockR (thenR ?_)))))
   exact retV (res1 rfl (by rw [hI, hd, idxF, if_pos c16]; rfl)) hS.ext
  ·
   refine skip <| cwQ <| region <| sv (yAdd h8 rfl ⟨by omega, by omega⟩) <| sv (yMove rfl) <| nil ?_
   exact ⟨_, _, rfl, ⟨k + 1, h0, h1, h7, rfl, hS, (by omega), (by rw [hI, hd, idxF, if_neg (by simp [c16])]; rfl), rfl⟩, by omega⟩
 ·
  simp only [BS, ne_eq] at c9
  refine exit <| cwQ <| seq <| region <| sv (yAsg rfl) <| nil <| cwQ ?_
  obtain rfl : k = l.length := by omega
  refine wp_ret ?_
  exact retV (res1 rfl (by rw [hI, List.drop_length]; rfl)) hS.ext
theorem c_ContainsBox {frm : Int} {l : List Bo} {p : Bo → Bool} {v : Value} {g : Nat} {cl : List Value} {w0 : World} (hsl : Sl w0 9 (RBx frm) v l) (hcall : ∀ ys w, (callFunc g ys).run Tryz.prog w = .ok (.enter g ys) w) (hp : ∀ x cs w, x ∈ l → Ext w0 w → (RBx frm) w cs x → CV Tryz.prog g (.agg cs.toArray :: cl).toArray w (.bool (p x))) : CV Tryz.prog 124 #[v, .func (.func g) #[] cl.toArray] w0 (.bool (l.any p)) := by
 refine enter Tryz.func124 rfl Tryz.ntmps124 rfl ?_
 have hS := St.start w0
 refine seq <| region <| sv (yAsg rfl) <| nil <| cwQ <| seq <| region <| sv (yMove rfl) <| sv (yMove rfl) ?_
 refine scall Tryz.call169 (.cons rfl (.cons rfl .nil)) (c_IndexBox hsl hcall hp) ?_
 rintro _ w ⟨rfl, hE⟩; replace hS := hS.step hE; clear hE
 refine sv (yGeq rfl rfl) <| sv (yAsg rfl) <| nil <| cwQ <| wp_ret ?_
 exact retV (res1 rfl (by rw [← idxF_any p l 0 (Int.le_refl 0)]; rfl)) hS.ext
end Go.Proofs.YtgidbailiababaaGreatDoor

/- part S16 -/
namespace Bx
open Go Go.RowKit
section
variable {w : World} {frm : Int} {B : TypeId} {bs : List Bo} {ms ls hs : List Value}
theorem bx_at {n cap : Nat} {a : Option Addr} (hrow : w.ownsRow 0 B 9 (.slice a n cap) n (bxCs frm (bs.map Bo.mem) ms ls hs).flatten) {k : Nat} (hk : k < bs.length) (hn : bs.length = n) (h1 : ms.length = bs.length) (h2 : ls.length = bs.length) (h3 : hs.length = bs.length) (hb : ∀ b ∈ bs, b.mem.length ≤ 4 ∧ (∀ x ∈ b.mem, I64 x) ∧ (∀ x ∈ lowB b, I64 x) ∧ ∀ x ∈ highB b, I64 x)
    (i1 : ∀ it ∈ inI ms (bs.map Bo.mem), it.ok w) (i2 : ∀ it ∈ inI ls (bs.map lowB), it.ok w) (i3 : ∀ it ∈ inI hs (bs.map highB), it.ok w) :
    ∃ g am cm al cl ah ch, a = some ⟨g, 0, none⟩ ∧ Cells w g (0 + k * 9) (bxC frm (boxAt bs k).mem (.slice am (boxAt bs k).mem.length cm) (.slice al (lowB (boxAt bs k)).length cl) (.slice ah (highB (boxAt bs k)).length ch)) ∧ (ms.getD k undef = .slice am (boxAt bs k).mem.length cm ∧ ls.getD k undef = .slice al (lowB (boxAt bs k)).length cl ∧ hs.getD k undef = .slice ah (highB (boxAt bs k)).length ch) ∧
      Sl w 1 RInt (.slice am (boxAt bs k).mem.length cm) (boxAt bs k).mem ∧ Sl w 1 RInt (.slice al (lowB (boxAt bs k)).length cl) (lowB (boxAt bs k)) ∧ Sl w 1 RInt (.slice ah (highB (boxAt bs k)).length ch) (highB (boxAt bs k)) := by
  obtain ⟨g, rfl, hc⟩ := bx_cells hrow hk hn h1 h2 h3
  have hbk := hb _ (List.mem_of_getElem? (boxAt_get hk))
  have s1 := in_sl (f := Bo.mem) i1 h1 hk hbk.2.1
  have s2 := in_sl (f := lowB) i2 h2 hk hbk.2.2.1
  have s3 := in_sl (f := highB) i3 h3 hk hbk.2.2.2
  obtain ⟨am, cm, e1, -⟩ := id s1
  obtain ⟨al, cl, e2, -⟩ := id s2
  obtain ⟨ah, ch, e3, -⟩ := id s3
  rw [e1] at s1
  rw [e2] at s2
  rw [e3] at s3
  rw [e1, e2, e3, ← Nat.zero_add (k * 9)] at hc
  exact ⟨g, am, cm, al, cl, ah, ch, rfl, hc, ⟨e1, e2, e3⟩, s1, s2, s3⟩
theorem out_no {all : List Bo} {i : Nat} {b : Bo} (h : ((!(all.any fun x => (decide (x.mem ≠ b.mem) && belowB (highB b) (highB x)) && !belowB (highB x) (highB b))) && !((all.take i).any fun x => decide (highB x = highB b))) = true) : outBx all i b = false := by
  unfold outBx
  simp only [Bool.and_eq_true, Bool.not_eq_true'] at h
  rw [h.1, h.2]; rfl
theorem out_yes {all : List Bo} {i : Nat} {b : Bo} (h : ¬ ((!(all.any fun x => (decide (x.mem ≠ b.mem) && belowB (highB b) (highB x)) && !belowB (highB x) (highB b))) && !((all.take i).any fun x => decide (highB x = highB b))) = true) : outBx all i b = true := by
  cases hc : outBx all i b with
  | true => rfl
  | false =>
    exfalso; apply h
    unfold outBx at hc
    simp only [Bool.or_eq_false_iff] at hc
    rw [hc.1, hc.2]; rfl
theorem pos_el {E : TypeId} {i : Nat} (hi : i < (posK bs bs.length).length) (h3 : hs.length = bs.length) (hb : ∀ b ∈ bs, b.mem.length ≤ 4 ∧ (∀ x ∈ b.mem, I64 x) ∧ (∀ x ∈ lowB b, I64 x) ∧ ∀ x ∈ highB b, I64 x) : ∃ vi, ∀ (w2 : World) (u : Value), w2.ownsRow 0 E 2 u (posK bs bs.length).length (posC frm bs hs bs.length) → (∀ it ∈ inI hs (bs.map highB), it.ok w2) →
    (∃ g cap, u = .slice (some ⟨g, 0, none⟩) (posK bs bs.length).length cap ∧ Cells w2 g (0 + i * 2) [.int .i64 frm, vi]) ∧ Sl w2 1 RInt vi ((posK bs bs.length).getD i []) := by
  have hl : (posK bs bs.length).length = (keepK bs bs.length).length := by rw [posK_eq, List.length_map]
  have hk : (keepK bs bs.length)[i]? = some ((keepK bs bs.length).getD i 0) := by simp [List.getD, show i < (keepK bs bs.length).length by omega]
  have hj := keepK_lt (List.mem_of_getElem? hk)
  have he : (posK bs bs.length).getD i [] = highB (boxAt bs ((keepK bs bs.length).getD i 0)) := by
    rw [posK_eq, List.getD_eq_getElem?_getD, List.getElem?_map, hk]; rfl
  refine ⟨hs.getD ((keepK bs bs.length).getD i 0) undef, fun w2 u hrow h4 => ⟨?_, ?_⟩⟩
  · obtain ⟨g, cap, hu, -, -, hc⟩ := row_some hrow (by omega)
    refine ⟨g, cap, hu, fun q x hq => ?_⟩
    have hf : posC frm bs hs bs.length = ((keepK bs bs.length).map fun i => [Value.int .i64 frm, hs.getD i undef]).flatten := by unfold posC; rw [List.flatMap_def]
    have := hc _ _ (by rw [hf]; exact flatten_at (k := 2) (fun x hx => by obtain ⟨j, -, rfl⟩ := List.mem_map.1 hx; rfl) (by rw [List.getElem?_map, hk]; rfl) q x hq)
    rw [Nat.zero_add] at this
    rwa [Nat.zero_add]
  · rw [he]
    exact in_sl h4 h3 hj (hb _ (List.mem_of_getElem? (boxAt_get hj))).2.2.2
end
end Bx

/- part Sx3 -/
namespace Go.Proofs.YtgidbailiababaaGreatDoor
open Go Bx
set_option maxHeartbeats 4000000 in
theorem c_possible {t : Sgt} {now : Int} {cv ov : Value} {ag ak ae aw ax : Option Addr} {cg ck ce cw cx bk mo : Nat} {os : List Span} {w0 w : World} {L9 : List Bx.Item} (h : RSgt w0 [.int .i64 t.table.mean, cv, .slice ag t.gauges.length cg, .int .i64 t.wrong, .int .i64 t.frm, .int .i64 t.ticks, .slice ak t.ctrs.length ck, .slice ae t.fcs.length ce, .int .i64 t.least, .int .i64 t.most, .int .i64 t.rate, .int .i64 t.quorum] t) (hok : SgOk t) (hnow : Bd now 0 200000) (hg : Glb w0) (hown : (os = [] ∧ mo = 0 ∧ ov = .slice none 0 0) ∨ (os = baseS t now ∧ mo = t.ticks.toNat)) (hS : StX [] w0 w (blk bk [.int .i64 t.table.mean, cv, .slice ag t.gauges.length cg, .int .i64 t.wrong, .int .i64 t.frm, .int .i64 t.ticks, .slice ak t.ctrs.length ck, .slice ae t.fcs.length ce, .int .i64 t.least, .int .i64 t.most, .int .i64 t.rate, .int .i64 t.quorum, .int .i64 now, .slice aw t.ticks.toNat cw, .slice ax t.ctrs.length cx, ov] 123 :: rowI (ov) 74 2 mo ((os).flatMap spanC) :: rowI (.slice aw t.ticks.toNat cw) 74 2 t.ticks.toNat ((tidesS t).flatMap spanC) :: rowI (.slice ax t.ctrs.length cx) 3 1 t.ctrs.length ((curS t now).flatMap Bx.encI) :: L9)) : CE Tryz.prog 67 #[.pointer (some ⟨bk, 0, none⟩)] w (fun u w' => ∃ ov' its, (∀ w2 : World, (∀ it ∈ its, it.ok w2) → Sl w2 2 RSer u ((posS t now).map (Ser.mk t.frm))) ∧ (∀ i, i < (posS t now).length → ∃ vi, ∀ w2 : World, (∀ it ∈ its, it.ok w2) → (∃ g cap, u = .slice (some ⟨g, 0, none⟩) (posS t now).length cap ∧ Cells w2 g (0 + i * 2) [.int .i64 t.frm, vi]) ∧ Sl w2 1 RInt vi ((posS t now).getD i [])) ∧ StX [] w0 w' (packI its :: blk bk [.int .i64 t.table.mean, cv, .slice ag t.gauges.length cg, .int .i64 t.wrong, .int .i64 t.frm, .int .i64 t.ticks, .slice ak t.ctrs.length ck, .slice ae t.fcs.length ce, .int .i64 t.least, .int .i64 t.most, .int .i64 t.rate, .int .i64 t.quorum, .int .i64 now, .slice aw t.ticks.toNat cw, .slice ax t.ctrs.length cx, ov'] 123 :: rowI (ov') 74 2 t.ticks.toNat ((baseS t now).flatMap spanC) :: rowI (.slice aw t.ticks.toNat cw) 74 2 t.ticks.toNat ((tidesS t).flatMap spanC) :: rowI (.slice ax t.ctrs.length cx) 3 1 t.ctrs.length ((curS t now).flatMap Bx.encI) :: L9)) := by
 obtain ⟨hT, hG, hw64, hf64, hk64, hC, hF, hl64, hm64, hr64, hq64⟩ := RSgt.parts h
 refine enter Tryz.func67 rfl Tryz.ntmps67 rfl ?_
 skip
 refine seq <| region <| sv (yAsg rfl) <| nil <| cwQ <| seq <| region <| sv (yMove rfl) ?_
 refine scall Tryz.call64 (.cons rfl .nil) (c_boxes h hok hnow hg hown hS) ?_
 rintro bv w ⟨ov', ms, ls, hs, hl1, hl2, hl3, hM⟩; clear hS; have hS := hM; clear hM
 obtain ⟨av, cv2, rfl⟩ := row_shape (hS.row bv)
 have hbn : (boxS t now).length ≤ 625 := Nat.le_trans boxL_len (cho_bd hok)
 refine sv (yAsg rfl) <| nil <| cwQ <| seq <| seq <| region <| sv (yMove rfl) <| sv (yLen rfl Tryz.underlying110) <| sv (yMove rfl) ?_
 refine nil <| cwQ <| block <| loop (fun f w zz => ∃ (k : Nat) (pv : Value), f 2 = pv ∧ f 3 = .slice av (boxS t now).length cv2 ∧ f 8 = .slice av (boxS t now).length cv2 ∧ f 9 = .int .i64 ((boxS t now).length : Int) ∧ f 10 = .int .i64 (k : Int) ∧ StX [] w0 w (rowI pv 41 2 (posK (boxS t now) k).length (posC t.frm (boxS t now) hs k) :: rowI (.slice av (boxS t now).length cv2) 115 9 (boxS t now).length (bxCs t.frm ((boxS t now).map Bo.mem) ms ls hs).flatten :: packI (inI ms ((boxS t now).map Bo.mem)) :: packI (inI ls ((boxS t now).map lowB)) :: packI (inI hs ((boxS t now).map highB)) :: blk bk [.int .i64 t.table.mean, cv, .slice ag t.gauges.length cg, .int .i64 t.wrong, .int .i64 t.frm, .int .i64 t.ticks, .slice ak t.ctrs.length ck, .slice ae t.fcs.length ce, .int .i64 t.least, .int .i64 t.most, .int .i64 t.rate, .int .i64 t.quorum, .int .i64 now, .slice aw t.ticks.toNat cw, .slice ax t.ctrs.length cx, ov'] 123 :: rowI (ov') 74 2 t.ticks.toNat ((baseS t now).flatMap spanC) :: rowI (.slice aw t.ticks.toNat cw) 74 2 t.ticks.toNat ((tidesS t).flatMap spanC) :: rowI (.slice ax t.ctrs.length cx) 3 1 t.ctrs.length ((curS t now).flatMap Bx.encI) :: L9) ∧ (k ≤ (boxS t now).length) ∧ zz = (boxS t now).length - k) _ ⟨_, rfl, 0, _, rfl, rfl, rfl, rfl, rfl, (hS.nilrow 41 2), (Nat.zero_le _), rfl⟩ ?_
 clear hS
 rintro f w _ ⟨k, pv, h2, h3, h8, h9, h10, hS, hk, rfl⟩
 refine seq <| region <| sv (yLss h10 h9) <| nil <| cwQ <| seq ?_
 refine cond rfl (fun c11 => ?_) (fun c11 => ?_)
 ·
  simp only [BS, ne_eq] at c11
  have hkn : k < (boxS t now).length := by omega
  obtain ⟨gb, am, cm, al, cl, ah, ch, hgb, hcb, hes, -, -, hsh0⟩ := (bx_at (hS.row (.slice av (boxS t now).length cv2)) hkn rfl hl1 hl2 hl3 (fun b hb => box_ok hok hb) (hS.ok (packI (inI ms ((boxS t now).map Bo.mem))) (by simp)) (hS.ok (packI (inI ls ((boxS t now).map lowB))) (by simp)) (hS.ok (packI (inI hs ((boxS t now).map highB))) (by simp)))
  have hpl : (posK (boxS t now) k).length ≤ k := posK_le
  have hbk : (boxAt (boxS t now) k) ∈ boxS t now := List.mem_of_getElem? (boxAt_get hkn)
  have hB0 := (bx_sl (hS.row (.slice av (boxS t now).length cv2)) rfl hl1 hl2 hl3 (fun b hb => box_ok hok hb) (hS.ok (packI (inI ms ((boxS t now).map Bo.mem))) (by simp)) (hS.ok (packI (inI ls ((boxS t now).map lowB))) (by simp)) (hS.ok (packI (inI hs ((boxS t now).map highB))) (by simp)))
  obtain ⟨_, _, heq, hbc, hbm, -⟩ := id hB0
  cases heq
  refine skip <| cwQ <| seq <| block <| seq <| region <| sv (yMove h10) <| sv (yIxa h8 hgb h10 Tryz.runUnderlying110 Tryz.sizeOf115 (by omega) (by omega)) <| sv (yLdA rfl Tryz.isAgg115 Tryz.sizeOf115 hcb rfl) ?_
  refine salloc hS Tryz.zeroValue115 rfl ?_; clear hS; intro b5 w hS
  refine sv (yAsg rfl) ?_
  refine sst hS rfl rfl Tryz.sizeOf115 rfl rfl rfl rfl ?_; clear hS; intro w hS
  refine nil <| cwQ <| seq <| region ?_
  have hB := (bx_sl (hS.row (.slice av (boxS t now).length cv2)) rfl hl1 hl2 hl3 (fun b hb => box_ok hok hb) (hS.ok (packI (inI ms ((boxS t now).map Bo.mem))) (by simp)) (hS.ok (packI (inI ls ((boxS t now).map lowB))) (by simp)) (hS.ok (packI (inI hs ((boxS t now).map highB))) (by simp)))
  have hsh := in_sl (f := highB) (bs := boxS t now) (k := k) (hS.ok (packI (inI hs ((boxS t now).map highB))) (by simp)) hl3 hkn (box_ok hok hbk).2.2.2
  rw [hes.2.2] at hsh
  refine sv (yMove h3) <| sv (yFn (.cons rfl .nil)) ?_
  refine scall Tryz.call124 (.cons rfl (.cons rfl .nil)) (c_ContainsBox (p := fun x => (decide (x.mem ≠ (boxAt (boxS t now) k).mem) && belowB (highB (boxAt (boxS t now) k)) (highB x)) && !belowB (highB x) (highB (boxAt (boxS t now) k))) (g := 125) (cl := [.pointer (some ⟨b5, 0, none⟩)]) hB Tryz.call125 (fun x cs w2 hx he hR => by
   have hx := hx
   obtain ⟨m2, l2, h2, rfl, hx4, -, -, hhx⟩ := hR
   exact c_clo1 (he.get (hS.at b5)) ((box_len hx).2.trans (box_len hbk).2.symm) (box_ok hok hbk).1 hhx (hsh.ext RInt.stays he) ((high_len hx).1.trans (high_len hbk).1.symm))) ?_
  rintro _ w ⟨rfl, hE⟩; replace hS := hS.step hE; clear hE
  refine sv (yNot rfl) ?_
  have hB := (bx_sl (hS.row (.slice av (boxS t now).length cv2)) rfl hl1 hl2 hl3 (fun b hb => box_ok hok hb) (hS.ok (packI (inI ms ((boxS t now).map Bo.mem))) (by simp)) (hS.ok (packI (inI ls ((boxS t now).map lowB))) (by simp)) (hS.ok (packI (inI hs ((boxS t now).map highB))) (by simp)))
  have hsh := in_sl (f := highB) (bs := boxS t now) (k := k) (hS.ok (packI (inI hs ((boxS t now).map highB))) (by simp)) hl3 hkn (box_ok hok hbk).2.2.2
  rw [hes.2.2] at hsh
  refine sv (yMove rfl) ?_
  refine sg rfl rfl rfl (fun g => (yMove h3)) (fun v20 g20 => ?_)
  refine sg rfl rfl rfl (fun g => (yMove rfl)) (fun v21 g21 => ?_)
  refine sg rfl rfl rfl (fun g => (yTo (i := k) (g20.1 g) (g21.1 g) Tryz.underlying110 Tryz.sizeOf115 (by omega))) (fun v22 g22 => ?_)
  refine sg rfl rfl rfl (fun g => (yFn (.cons rfl .nil))) (fun v23 g23 => ?_)
  refine sgc hS rfl rfl rfl Tryz.call124 (fun g => (.cons (g22.1 g) (.cons (g23.1 g) .nil))) (fun g => (c_ContainsBox (p := fun x => decide (highB x = highB (boxAt (boxS t now) k))) (g := 127) (cl := [.pointer (some ⟨b5, 0, none⟩)]) (Sl.take hB (show k ≤ (boxS t now).length by omega)) Tryz.call127 (fun x cs w2 hx he hR => by
   have hx := List.mem_of_mem_take hx
   obtain ⟨m2, l2, h2, rfl, hx4, -, -, hhx⟩ := hR
   exact c_clo2 (he.get (hS.at b5)) ((box_len hx).2.trans (box_len hbk).2.symm) (box_ok hok hbk).1 hhx (hsh.ext RInt.stays he) ((high_len hx).1.trans (high_len hbk).1.symm)))) ?_; clear hS; intro v24 w hS g24
  refine sg rfl rfl rfl (fun g => (yNot (g24.1 g))) (fun v25 g25 => ?_)
  refine sv (yAnd rfl (fun hB => (g25.1 hB)) rfl) <| nil <| cwQ ?_
  refine cond rfl (fun c26 => ?_) (fun c26 => ?_)
  ·
   have hout := out_no c26
   refine region <| sv (yMove h2) <| sv (fa115_1 rfl) <| sv (fa43_2 rfl) <| sv (yLdBA rfl Tryz.isAgg41 Tryz.sizeOf41 (hS.at _) rfl rfl) ?_
   refine sbslice hS Tryz.underlying45 Tryz.sizeOf41 rfl Tryz.zeroValue41 rfl (.cons rfl rfl .nil) rfl ?_; clear hS; intro b31 w hS
   refine sapp (bytes := 32) (size := 2) (v := pv) (m := 1) hS rfl rfl Tryz.underlying45 ti41 rfl rfl rfl rfl (by decide) (blk_cells (hS.at _)) rfl rfl (by omega) (by omega) ?_; clear hS; intro v32 w hS
   refine sv (yAsg rfl) <| nil <| cwQ <| region <| sv (yAdd h10 rfl ⟨by omega, by omega⟩) <| sv (yMove rfl) <| nil ?_
   exact ⟨_, _, rfl, ⟨k + 1, _, rfl, h3, h8, h9, rfl, (by rw [posK_yes hout, posC_yes hout, hes.2.2]; exact hS.sub (.cons _ (.cons _ lrQ))), (by omega), rfl⟩, by omega⟩
  ·
   have hout := out_yes (by rw [c26]; decide)
   refine skip <| cwQ <| region <| sv (yAdd h10 rfl ⟨by omega, by omega⟩) <| sv (yMove rfl) <| nil ?_
   exact ⟨_, _, rfl, ⟨k + 1, _, h2, h3, h8, h9, rfl, (by rw [posK_no hout, posC_no hout]; exact hS.sub (.cons _ lrQ)), (by omega), rfl⟩, by omega⟩
 ·
  simp only [BS, ne_eq] at c11
  obtain rfl : k = (boxS t now).length := by omega
  refine exit <| cwQ <| seq <| region <| sv (yMove h2) <| sv (yAsg rfl) <| nil <| cwQ <| wp_ret ?_
  refine retQ (res1 rfl rfl) ?_
  exact ⟨ov', [rowI pv 41 2 (posK (boxS t now) (boxS t now).length).length (posC t.frm (boxS t now) hs (boxS t now).length), rowI (.slice av (boxS t now).length cv2) 115 9 (boxS t now).length (bxCs t.frm ((boxS t now).map Bo.mem) ms ls hs).flatten, packI (inI ms ((boxS t now).map Bo.mem)), packI (inI ls ((boxS t now).map lowB)), packI (inI hs ((boxS t now).map highB))], fun w2 hi => pos_sl (hi (rowI pv 41 2 (posK (boxS t now) (boxS t now).length).length (posC t.frm (boxS t now) hs (boxS t now).length)) (by simp)) rfl hf64 hl3 (fun b hb => box_ok hok hb) (hi (packI (inI hs ((boxS t now).map highB))) (by simp)), fun i hil => by
   obtain ⟨vi, hvi⟩ := pos_el (E := 41) (frm := t.frm) hil hl3 (fun b hb => box_ok hok hb)
   exact ⟨vi, fun w2 hi => hvi w2 _ (hi (rowI pv 41 2 (posK (boxS t now) (boxS t now).length).length (posC t.frm (boxS t now) hs (boxS t now).length)) (by simp)) (hi (packI (inI hs ((boxS t now).map highB))) (by simp))⟩, StX.pack (M := [rowI pv 41 2 (posK (boxS t now) (boxS t now).length).length (posC t.frm (boxS t now) hs (boxS t now).length), rowI (.slice av (boxS t now).length cv2) 115 9 (boxS t now).length (bxCs t.frm ((boxS t now).map Bo.mem) ms ls hs).flatten, packI (inI ms ((boxS t now).map Bo.mem)), packI (inI ls ((boxS t now).map lowB)), packI (inI hs ((boxS t now).map highB))]) hS⟩
end Go.Proofs.YtgidbailiababaaGreatDoor

/- part S17 -/
namespace Bx
open Go Go.RowKit
theorem its0 {w0 w : World} {L : List Item} (hS : StX [] w0 w L) : StX [] w0 w [packI []] := StX.pack (M := []) (hS.sub (List.nil_sublist _))
theorem its1 {w0 w : World} {x : Item} {L : List Item} (hS : StX [] w0 w (x :: L)) : StX [] w0 w [packI [x]] := StX.pack (M := [x]) (hS.sub (.cons_cons _ (List.nil_sublist _)))
theorem sl_none {α : Type} {w : World} {k : Nat} {R : World → List Value → α → Prop} : Sl w k R (.slice none 0 0) [] := ⟨none, 0, rfl, Nat.le_refl _, by decide, fun i hi => absurd hi (Nat.not_lt_zero _)⟩
structure Bxs where
  mem : List Int
  low : Ser
  high : Ser
def RBxs (w : World) (cs : List Value) (b : Bxs) : Prop := ∃ m l h, cs = [m, .int .i64 b.low.frm, l, .int .i64 b.high.frm, h] ∧ I64 b.low.frm ∧ I64 b.high.frm ∧ Sl w 1 RInt m b.mem ∧ Sl w 1 RInt l b.low.vals ∧ Sl w 1 RInt h b.high.vals
theorem RBxs.stays : Stays RBxs := fun _ _ _ _ e ⟨m, l, h, h1, h2, h3, h4, h5, h6⟩ => ⟨m, l, h, h1, h2, h3, h4.ext RInt.stays e, h5.ext RInt.stays e, h6.ext RInt.stays e⟩
def toBxs (frm : Int) (b : Bo) : Bxs := ⟨b.mem, ⟨frm, lowB b⟩, ⟨frm, highB b⟩⟩
def boxC (frm : Int) (ms ls hs : List Value) (k : Nat) : List Value := (List.range k).flatMap fun i => [ms.getD i undef, .int .i64 frm, ls.getD i undef, .int .i64 frm, hs.getD i undef]
theorem boxC_succ {frm : Int} {ms ls hs : List Value} {k : Nat} : boxC frm ms ls hs (k + 1) = boxC frm ms ls hs k ++ [ms.getD k undef, .int .i64 frm, ls.getD k undef, .int .i64 frm, hs.getD k undef] := by unfold boxC; rw [List.range_succ, List.flatMap_append]; simp
section
variable {w : World} {frm : Int} {bs : List Bo} {ms ls hs : List Value}
theorem box_sl {E : TypeId} {u : Value} {n : Nat} (hrow : w.ownsRow 0 E 5 u n (boxC frm ms ls hs bs.length)) (hn : bs.length = n) (hfr : I64 frm) (h1 : ms.length = bs.length) (h2 : ls.length = bs.length) (h3 : hs.length = bs.length) (hb : ∀ b ∈ bs, b.mem.length ≤ 4 ∧ (∀ x ∈ b.mem, I64 x) ∧ (∀ x ∈ lowB b, I64 x) ∧ ∀ x ∈ highB b, I64 x)
    (i1 : ∀ it ∈ inI ms (bs.map Bo.mem), it.ok w) (i2 : ∀ it ∈ inI ls (bs.map lowB), it.ok w) (i3 : ∀ it ∈ inI hs (bs.map highB), it.ok w) : Sl w 5 RBxs u (bs.map (toBxs frm)) := by
  have key : ∀ is : List Nat, (∀ i ∈ is, i < bs.length) → Bx.Rows w 5 RBxs (is.map fun i => [ms.getD i undef, .int .i64 frm, ls.getD i undef, .int .i64 frm, hs.getD i undef]) ((is.map fun i => boxAt bs i).map (toBxs frm)) := by
    intro is
    induction is with
    | nil => intro _; trivial
    | cons i is ih =>
      intro h
      have hi := h i (List.mem_cons_self ..)
      have hbi := hb _ (List.mem_of_getElem? (boxAt_get hi))
      refine ⟨rfl, ⟨_, _, _, rfl, hfr, hfr, in_sl (f := Bo.mem) i1 h1 hi hbi.2.1, in_sl (f := lowB) i2 h2 hi hbi.2.2.1, in_sl (f := highB) i3 h3 hi hbi.2.2.2⟩, ih fun j hj => h j (List.mem_cons_of_mem _ hj)⟩
  have hflat : boxC frm ms ls hs bs.length = ((List.range bs.length).map fun i => [ms.getD i undef, .int .i64 frm, ls.getD i undef, .int .i64 frm, hs.getD i undef]).flatten := by unfold boxC; rw [List.flatMap_def]
  have e : (List.range bs.length).map (fun i => boxAt bs i) = bs := by
    apply List.ext_getElem?
    intro i
    rw [List.getElem?_map]
    by_cases hi : i < bs.length
    · rw [List.getElem?_range hi, Option.map_some, boxAt_get hi]
    · rw [List.getElem?_eq_none (by simpa using hi), List.getElem?_eq_none (by omega)]; rfl
  rw [hflat] at hrow
  have := key (List.range bs.length) fun i hi => List.mem_range.1 hi
  rw [e] at this
  exact sl_of_row hrow this (by rw [List.length_map]; exact hn)
end
end Bx

/- part Sx4 -/
namespace Go.Proofs.YtgidbailiababaaGreatDoor
open Go Bx
set_option maxHeartbeats 1000000 in
theorem c_Current {t : Sgt} {cv : Value} {ag ak ae : Option Addr} {cg ck ce : Nat} {now : Int} {w0 : World} (h : RSgt w0 [.int .i64 t.table.mean, cv, .slice ag t.gauges.length cg, .int .i64 t.wrong, .int .i64 t.frm, .int .i64 t.ticks, .slice ak t.ctrs.length ck, .slice ae t.fcs.length ce, .int .i64 t.least, .int .i64 t.most, .int .i64 t.rate, .int .i64 t.quorum] t) (hg : Glb w0) (hI : I64 now) : CE Tryz.prog 27 #[.agg [.int .i64 t.table.mean, cv, .slice ag t.gauges.length cg, .int .i64 t.wrong, .int .i64 t.frm, .int .i64 t.ticks, .slice ak t.ctrs.length ck, .slice ae t.fcs.length ce, .int .i64 t.least, .int .i64 t.most, .int .i64 t.rate, .int .i64 t.quorum].toArray, .int .i64 now] w0 (fun u w' => ∃ v its, u = .tuple #[v, .int .i64 (curR t now).2] ∧ (∀ w2 : World, (∀ it ∈ its, it.ok w2) → Sl w2 1 RInt v ((curR t now).1)) ∧ St w0 w' [packI its]) := by
 obtain ⟨hT, hG, hw64, hf64, hk64, hC, hF, hl64, hm64, hr64, hq64⟩ := RSgt.parts h
 refine enter Tryz.func27 rfl Tryz.ntmps27 rfl ?_
 have hS := St.start w0
 refine seq <| region ?_
 refine sbox hS rfl rfl ?_; clear hS; intro b2 w hS
 refine sv (yAsg rfl) <| sv (yAsg rfl) <| nil <| cwQ <| seq <| region <| sv (yLdBA rfl Tryz.isAgg29 Tryz.sizeOf29 (hS.at _) rfl rfl) <| sv (yMove rfl) ?_
 refine scall Tryz.call63 (.cons rfl (.cons rfl .nil)) (c_with (h.ext hS.ext) hI) ?_
 rintro _ w (⟨he, rfl, hE⟩ | ⟨he, bk, aw, cw, ax, cx, rfl, hM⟩)
 ·
  replace hS := hS.step hE; clear hE
  refine sv (yMove rfl) <| sv (yExt rfl rfl) <| sv (yExt rfl rfl) <| sv (yAsg rfl) <| sv (yAsg rfl) <| nil <| cwQ <| seq <| seq ?_
  refine region <| sv (yMove rfl) <| sv (yNeq rfl rfl) <| nil <| cwQ ?_
  refine cond rfl (fun c15 => ?_) (fun c15 => ?_)
  ·
   simp only [BS, ne_eq] at c15
   refine seq <| region <| sv (yMove rfl) <| sv (yAsg rfl) <| sv (yAsg rfl) <| nil <| cwQ ?_
   refine wp_ret (thenR ?_)
   refine retQ (res2 rfl rfl rfl) ?_
   have hf : curR t now = ([], askE t now) := by unfold curR; rw [if_pos he]
   rw [hf]
   exact ⟨_, [], rfl, fun _ _ => sl_none, its0 hS⟩
  ·
   simp only [BS, ne_eq] at c15
   exact absurd c15 he
 ·
  replace hS := hS.call hM; clear hM
  replace hS : StX [] w0 w [blk bk [.int .i64 t.table.mean, cv, .slice ag t.gauges.length cg, .int .i64 t.wrong, .int .i64 t.frm, .int .i64 t.ticks, .slice ak t.ctrs.length ck, .slice ae t.fcs.length ce, .int .i64 t.least, .int .i64 t.most, .int .i64 t.rate, .int .i64 t.quorum, .int .i64 now, .slice aw t.ticks.toNat cw, .slice ax t.ctrs.length cx, .slice none 0 0] 123, rowI (.slice aw t.ticks.toNat cw) 74 2 t.ticks.toNat ((tidesS t).flatMap spanC), rowI (.slice ax t.ctrs.length cx) 3 1 t.ctrs.length ((curS t now).flatMap Bx.encI), blk b2 [.int .i64 t.table.mean, cv, .slice ag t.gauges.length cg, .int .i64 t.wrong, .int .i64 t.frm, .int .i64 t.ticks, .slice ak t.ctrs.length ck, .slice ae t.fcs.length ce, .int .i64 t.least, .int .i64 t.most, .int .i64 t.rate, .int .i64 t.quorum] 29] := hS
  obtain ⟨hok, hnow⟩ := askE_ok he
  have htk := hok.tk
  have hnc := hok.nc
  have hnf := hok.nf
  refine sv (yMove rfl) <| sv (yExt rfl rfl) <| sv (yExt rfl rfl) <| sv (yAsg rfl) <| sv (yAsg rfl) <| nil <| cwQ <| seq <| seq ?_
  refine region <| sv (yMove rfl) <| sv (yNeq rfl rfl) <| nil <| cwQ ?_
  refine cond rfl (fun c15 => ?_) (fun c15 => ?_)
  ·
   exact absurd c15 (by decide)
  ·
   refine skip <| cwQ <| seq <| region <| sv (yMove rfl) <| sv (yNil rfl) <| sv (fa123_3 rfl) <| sv (yLdB rfl Tryz.isAgg39 (hS.at bk) rfl) <| sv (yAsg rfl) ?_
   refine sv (yAsg rfl) <| nil <| cwQ <| wp_ret <| retQ (res2 rfl rfl rfl) ?_
   have hf : curR t now = (curS t now, 0) := by unfold curR; rw [if_neg (fun k => k he)]
   rw [hf]
   exact ⟨_, [rowI (.slice ax t.ctrs.length cx) 3 1 t.ctrs.length ((curS t now).flatMap Bx.encI)], rfl, fun w2 hi => sl_ints (hi (rowI (.slice ax t.ctrs.length cx) 3 1 t.ctrs.length ((curS t now).flatMap Bx.encI)) (by simp)) (curS_len ..) (cur_i64 hok), its1 (hS.sub (.cons _ (.cons _ lrQ)))⟩
set_option maxHeartbeats 1000000 in
theorem c_Possible {t : Sgt} {cv : Value} {ag ak ae : Option Addr} {cg ck ce : Nat} {now : Int} {w0 : World} (h : RSgt w0 [.int .i64 t.table.mean, cv, .slice ag t.gauges.length cg, .int .i64 t.wrong, .int .i64 t.frm, .int .i64 t.ticks, .slice ak t.ctrs.length ck, .slice ae t.fcs.length ce, .int .i64 t.least, .int .i64 t.most, .int .i64 t.rate, .int .i64 t.quorum] t) (hg : Glb w0) (hI : I64 now) : CE Tryz.prog 24 #[.agg [.int .i64 t.table.mean, cv, .slice ag t.gauges.length cg, .int .i64 t.wrong, .int .i64 t.frm, .int .i64 t.ticks, .slice ak t.ctrs.length ck, .slice ae t.fcs.length ce, .int .i64 t.least, .int .i64 t.most, .int .i64 t.rate, .int .i64 t.quorum].toArray, .int .i64 now] w0 (fun u w' => ∃ v its, u = .tuple #[v, .int .i64 (posR t now).2] ∧ (∀ w2 : World, (∀ it ∈ its, it.ok w2) → Sl w2 2 RSer v (((posR t now).1).map (Ser.mk t.frm))) ∧ St w0 w' [packI its]) := by
 obtain ⟨hT, hG, hw64, hf64, hk64, hC, hF, hl64, hm64, hr64, hq64⟩ := RSgt.parts h
 refine enter Tryz.func24 rfl Tryz.ntmps24 rfl ?_
 have hS := St.start w0
 refine seq <| region ?_
 refine sbox hS rfl rfl ?_; clear hS; intro b2 w hS
 refine sv (yAsg rfl) <| sv (yAsg rfl) <| nil <| cwQ <| seq <| region <| sv (yLdBA rfl Tryz.isAgg29 Tryz.sizeOf29 (hS.at _) rfl rfl) <| sv (yMove rfl) ?_
 refine scall Tryz.call63 (.cons rfl (.cons rfl .nil)) (c_with (h.ext hS.ext) hI) ?_
 rintro _ w (⟨he, rfl, hE⟩ | ⟨he, bk, aw, cw, ax, cx, rfl, hM⟩)
 ·
  replace hS := hS.step hE; clear hE
  refine sv (yMove rfl) <| sv (yExt rfl rfl) <| sv (yExt rfl rfl) <| sv (yAsg rfl) <| sv (yAsg rfl) <| nil <| cwQ <| seq <| seq ?_
  refine region <| sv (yMove rfl) <| sv (yNeq rfl rfl) <| nil <| cwQ ?_
  refine cond rfl (fun c15 => ?_) (fun c15 => ?_)
  ·
   simp only [BS, ne_eq] at c15
   refine seq <| region <| sv (yMove rfl) <| sv (yAsg rfl) <| sv (yAsg rfl) <| nil <| cwQ ?_
   refine wp_ret (thenR ?_)
   refine retQ (res2 rfl rfl rfl) ?_
   have hf : posR t now = ([], askE t now) := by unfold posR; rw [if_pos he]
   rw [hf]
   exact ⟨_, [], rfl, fun _ _ => sl_none, its0 hS⟩
  ·
   simp only [BS, ne_eq] at c15
   exact absurd c15 he
 ·
  replace hS := hS.call hM; clear hM
  replace hS : StX [] w0 w [blk bk [.int .i64 t.table.mean, cv, .slice ag t.gauges.length cg, .int .i64 t.wrong, .int .i64 t.frm, .int .i64 t.ticks, .slice ak t.ctrs.length ck, .slice ae t.fcs.length ce, .int .i64 t.least, .int .i64 t.most, .int .i64 t.rate, .int .i64 t.quorum, .int .i64 now, .slice aw t.ticks.toNat cw, .slice ax t.ctrs.length cx, .slice none 0 0] 123, rowI (.slice aw t.ticks.toNat cw) 74 2 t.ticks.toNat ((tidesS t).flatMap spanC), rowI (.slice ax t.ctrs.length cx) 3 1 t.ctrs.length ((curS t now).flatMap Bx.encI), blk b2 [.int .i64 t.table.mean, cv, .slice ag t.gauges.length cg, .int .i64 t.wrong, .int .i64 t.frm, .int .i64 t.ticks, .slice ak t.ctrs.length ck, .slice ae t.fcs.length ce, .int .i64 t.least, .int .i64 t.most, .int .i64 t.rate, .int .i64 t.quorum] 29] := hS
  obtain ⟨hok, hnow⟩ := askE_ok he
  have htk := hok.tk
  have hnc := hok.nc
  have hnf := hok.nf
  refine sv (yMove rfl) <| sv (yExt rfl rfl) <| sv (yExt rfl rfl) <| sv (yAsg rfl) <| sv (yAsg rfl) <| nil <| cwQ <| seq <| seq ?_
  refine region <| sv (yMove rfl) <| sv (yNeq rfl rfl) <| nil <| cwQ ?_
  refine cond rfl (fun c15 => ?_) (fun c15 => ?_)
  ·
   exact absurd c15 (by decide)
  ·
   refine skip <| cwQ <| seq <| region <| sv (yMove rfl) ?_
   refine scall Tryz.call67 (.cons rfl .nil) (c_possible h hok hnow hg (.inl ⟨rfl, rfl, rfl⟩) ((hS.nilrow 74 2).perm (List.Perm.swap _ _ _))) ?_
   rintro bv w ⟨ov', its, hit, -, hM⟩; clear hS; have hS := hM; clear hM
   refine sv (yAsg rfl) <| sv (yAsg rfl) <| nil <| cwQ <| wp_ret <| retQ (res2 rfl rfl rfl) ?_
   have hf : posR t now = (posS t now, 0) := by unfold posR; rw [if_neg (fun k => k he)]
   rw [hf]
   exact ⟨_, its, rfl, fun w2 hi => hit w2 hi, hS.sub (.cons_cons _ (List.nil_sublist _))⟩
set_option maxHeartbeats 1000000 in
theorem c_Error {t : Sgt} {cv : Value} {ag ak ae : Option Addr} {cg ck ce : Nat} {now : Int} {fi : Int} {w0 : World} (h : RSgt w0 [.int .i64 t.table.mean, cv, .slice ag t.gauges.length cg, .int .i64 t.wrong, .int .i64 t.frm, .int .i64 t.ticks, .slice ak t.ctrs.length ck, .slice ae t.fcs.length ce, .int .i64 t.least, .int .i64 t.most, .int .i64 t.rate, .int .i64 t.quorum] t) (hg : Glb w0) (hI : I64 now) (hF0 : I64 fi) : CV Tryz.prog 39 #[.agg [.int .i64 t.table.mean, cv, .slice ag t.gauges.length cg, .int .i64 t.wrong, .int .i64 t.frm, .int .i64 t.ticks, .slice ak t.ctrs.length ck, .slice ae t.fcs.length ce, .int .i64 t.least, .int .i64 t.most, .int .i64 t.rate, .int .i64 t.quorum].toArray, .int .i64 fi, .int .i64 now] w0 (.tuple #[.int .i64 (errR t now fi).1, .int .i64 (errR t now fi).2]) := by
 obtain ⟨hT, hG, hw64, hf64, hk64, hC, hF, hl64, hm64, hr64, hq64⟩ := RSgt.parts h
 refine enter Tryz.func39 rfl Tryz.ntmps39 rfl ?_
 have hS := St.start w0
 refine seq <| region ?_
 refine sbox hS rfl rfl ?_; clear hS; intro b3 w hS
 refine sv (yAsg rfl) <| sv (yAsg rfl) <| nil <| cwQ <| seq <| region <| sv (yLdBA rfl Tryz.isAgg29 Tryz.sizeOf29 (hS.at _) rfl rfl) <| sv (yMove rfl) ?_
 refine scall Tryz.call63 (.cons rfl (.cons rfl .nil)) (c_with (h.ext hS.ext) hI) ?_
 rintro _ w (⟨he, rfl, hE⟩ | ⟨he, bk, aw, cw, ax, cx, rfl, hM⟩)
 ·
  replace hS := hS.step hE; clear hE
  refine sv (yMove rfl) <| sv (yExt rfl rfl) <| sv (yExt rfl rfl) <| sv (yAsg rfl) <| sv (yAsg rfl) <| nil <| cwQ <| seq <| block ?_
  refine seq <| region <| sv (yMove rfl) <| sv (yNeq rfl rfl) <| sv (yAsg rfl) <| nil <| cwQ ?_
  refine cond rfl (fun c16 => ?_) (fun c16 => ?_)
  ·
   simp only [BS, ne_eq] at c16
   refine seq <| region <| sv (yMove rfl) <| sv (yAsg rfl) <| sv (yAsg rfl) <| nil <| cwQ ?_
   have hf : errR t now fi = (0, askE t now) := by unfold errR; rw [if_pos he]
   refine wp_ret (blockR (thenR ?_))
   exact retV (res2 rfl (by rw [hf]; rfl) (by rw [hf]; rfl)) hS.ext
  ·
   simp only [BS, ne_eq] at c16
   exact absurd c16 he
 ·
  replace hS := hS.call hM; clear hM
  replace hS : StX [] w0 w [blk bk [.int .i64 t.table.mean, cv, .slice ag t.gauges.length cg, .int .i64 t.wrong, .int .i64 t.frm, .int .i64 t.ticks, .slice ak t.ctrs.length ck, .slice ae t.fcs.length ce, .int .i64 t.least, .int .i64 t.most, .int .i64 t.rate, .int .i64 t.quorum, .int .i64 now, .slice aw t.ticks.toNat cw, .slice ax t.ctrs.length cx, .slice none 0 0] 123, rowI (.slice aw t.ticks.toNat cw) 74 2 t.ticks.toNat ((tidesS t).flatMap spanC), rowI (.slice ax t.ctrs.length cx) 3 1 t.ctrs.length ((curS t now).flatMap Bx.encI), blk b3 [.int .i64 t.table.mean, cv, .slice ag t.gauges.length cg, .int .i64 t.wrong, .int .i64 t.frm, .int .i64 t.ticks, .slice ak t.ctrs.length ck, .slice ae t.fcs.length ce, .int .i64 t.least, .int .i64 t.most, .int .i64 t.rate, .int .i64 t.quorum] 29] := hS
  obtain ⟨hok, hnow⟩ := askE_ok he
  have htk := hok.tk
  have hnc := hok.nc
  have hnf := hok.nf
  refine sv (yMove rfl) <| sv (yExt rfl rfl) <| sv (yExt rfl rfl) <| sv (yAsg rfl) <| sv (yAsg rfl) <| nil <| cwQ <| seq <| block ?_
  refine seq <| region <| sv (yMove rfl) <| sv (yNeq rfl rfl) <| sv (yAsg rfl) <| nil <| cwQ ?_
  refine cond rfl (fun c16 => ?_) (fun c16 => ?_)
  ·
   exact absurd c16 (by decide)
  ·
   refine seq <| region <| sv (yMove rfl) <| sv (fa29_6 rfl) <| sv (yLdB rfl Tryz.isAgg27 (hS.at _) rfl) <| sv (yLen rfl Tryz.underlying27) <| sv (ySub rfl rfl ⟨by omega, by omega⟩) ?_
   refine scall Tryz.call53 (.cons rfl (.cons rfl (.cons rfl .nil))) c_outS ?_
   rintro _ w ⟨rfl, hE⟩; replace hS := hS.step hE; clear hE
   refine sv (yAsg rfl) <| nil <| cwQ ?_
   refine cond rfl (fun c20 => ?_) (fun c20 => ?_)
   ·
    refine seq <| region <| sv (yAsg rfl) <| sv (yAsg rfl) <| nil <| cwQ ?_
    have hf : errR t now fi = (0, 4) := by unfold errR; rw [if_neg (fun k => k he), if_pos c20]
    refine wp_ret (blockR (thenR ?_))
    exact retV (res2 rfl (by rw [hf]; rfl) (by rw [hf]; rfl)) hS.ext
   ·
    obtain ⟨hi0, hi1⟩ := outB_false.1 c20
    obtain hfo := hok.fcts (i := fi.toNat) (by omega)
    obtain ⟨bf, of, csf, haf, -, hcf, hRf, -⟩ := sl_at hF (fct_get (show fi.toNat < t.fcs.length by omega))
    obtain ⟨mv, rfl, hf1, hf2, hf3, hMm⟩ := id hRf
    obtain ⟨am, cm, rfl, hmcap, hmmx, -⟩ := id hMm
    refine skip <| cwQ <| seq <| region <| sv (yMove rfl) <| sv (fa29_6 rfl) <| sv (yLdB rfl Tryz.isAgg27 (hS.at _) rfl) <| sv (yMove rfl) <| sv (yIxa rfl haf (rfl.trans (congrArg (Value.int .i64) (show fi = ((fi.toNat : Nat) : Int) by omega))) Tryz.runUnderlying27 Tryz.sizeOf61 (by omega) (by omega)) ?_
    refine sv (yLdA rfl Tryz.isAgg61 Tryz.sizeOf61 (hcf.ext hS.ext) rfl) <| sv (yMove rfl) ?_
    refine scall Tryz.call90 (.cons rfl (.cons rfl (.cons rfl .nil))) (c_wrongS ⟨cv, ag, cg, ak, ck, ae, ce, aw, cw, ax, cx, hS.at bk, RTable.stays _ _ _ _ hS.ext hT, hG.ext RGauge.stays hS.ext, hC.ext RCtr.stays hS.ext, hF.ext RFct.stays hS.ext, sl_spans (hS.row (.slice aw t.ticks.toNat cw)) (tidesS_len ..) (lbd_i64 (tides_lbd hok)), sl_ints (hS.row (.slice ax t.ctrs.length cx)) (curS_len ..) (cur_i64 hok)⟩ hok hfo hnow) ?_
    rintro _ w ⟨rfl, hE⟩; replace hS := hS.step hE; clear hE
    refine sv (yAsg rfl) <| sv (yAsg rfl) <| nil <| cwQ ?_
    have hf : errR t now fi = (wrongS t (fct t.fcs fi.toNat) now, 0) := by unfold errR; rw [if_neg (fun k => k he), if_neg (by rw [c20]; decide)]
    refine wp_ret ?_
    exact retV (res2 rfl (by rw [hf]; rfl) (by rw [hf]; rfl)) hS.ext
end Go.Proofs.YtgidbailiababaaGreatDoor

