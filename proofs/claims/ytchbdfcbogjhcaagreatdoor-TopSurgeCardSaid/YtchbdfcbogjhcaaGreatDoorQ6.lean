/- Merged texts, part 6. -/
import Derived.Test.YtchbdfcbogjhcaaGreatDoorQ5
import Derived.Test.YtchbdfcbogjhcaaGreatDoorProg
import Derived.Test.YtchbdfcbogjhcaaGreatDoorRows
import Derived.ChangeSame
import Derived.ChangeVars
import Derived.ChangeArms
import Derived.JoinedOf
import Derived.RowKit
import Derived.FnData
import Derived.LaidLaws
import Derived.LaidHandle
import Derived.Stop.Joined
set_option linter.all false
set_option maxHeartbeats 8000000
namespace Go.Proofs.YtchbdfcbogjhcaaGreatDoor
open Go Bx Go.Proofs.Tryz
theorem c_CheckC {c : Clt} {cs : List Value} {w0 : World} (hT : RClt w0 cs c) : CE Tryz.prog 46 #[.agg cs.toArray] w0 (fun u w' => ∃ a b, u = .tuple #[.int .i64 a, .int .i64 b, .int .i64 (chkE c)] ∧ Ext w0 w') := by
 obtain ⟨rv, pv, fv, hv, iv, rfl, hB, hFl, hFr, hH, hR, ho64, hl64, hd64⟩ := id hT
 obtain ⟨_, _, e0, hbs, -, -, -, hbp⟩ := id hB
 cases e0
 obtain ⟨ar, cr, rfl, -⟩ := id hbs
 obtain ⟨ap, cp, rfl, -⟩ := id hbp
 obtain ⟨af, cf, rfl, -⟩ := id hFl
 obtain ⟨ah, ch, rfl, -⟩ := id hH
 obtain ⟨ai, ci, rfl, -⟩ := id hR
 obtain ⟨bh0, oh0, av0, cv0, hs0⟩ := ser_if hH
 refine enQ func46 rfl ntmps46 rfl fun hS => ?_
 refine seq <| region ?_
 refine sbox hS rfl rfl fun b1 w hS => ?_
 refine vA <| vA <| vA <| nil <| cwQ <| seq <| seq <| region <| sv (fa41_0 rfl) <| sv (yLdBA rfl isAgg38 sizeOf38 (hS.at _) rfl rfl) ?_
 refine scV hS call72 e1 (c_CheckB (hB.ext hS.ext)) fun w hS => ?_
 refine vM <| sv (yExt rfl rfl) <| sv (yExt rfl rfl) <| sv (yExt rfl rfl) <| vA <| nil <| cwQ <| seq <| region <| vM <| sv (yNeq rfl rfl) <| nil <| cwQ ?_
 refine cond rfl ?_ ?_ <;> intro c19 <;> simp only [BS, ne_eq] at c19
 ·
  refine seq <| region <| vM <| vA <| vA <| vA <| nil <| cwQ ?_
  refine wp_ret (thenR ?_)
  refine retQ (res3 rfl rfl rfl rfl) ?_
  rw [chk_1 c19]
  exact ⟨_, _, rfl, hS.ext⟩
 have h19 : ¬ (checkB c.bas).2.2 ≠ 0 := fun k => k c19
 have hbo := check_ok c19
 have hbl := hbo.len
 refine skip <| cwQ <| seq <| seq <| region <| sv (fa41_2 rfl) <| vL rfl isAgg39 hS rfl <| sv (yLen rfl underlying39) ?_
 refine scV hS call29 e3 c_lout fun w hS => ?_
 refine vM ?_
 refine sg rfl rfl rfl (fun g => (fa41_2 rfl)) (fun v26 g26 => ?_)
 refine sg rfl rfl rfl (fun g => (yLdB (g26.1 g) isAgg39 (hS.at _) rfl)) (fun v27 g27 => ?_)
 refine sg rfl rfl rfl (fun g => (yIxa (m := 0) (g27.1 g) (hs0 (by have := outB_false.1 g; omega)).1 rfl runUnderlying39 sizeOf32 (by decide) (by have := (hs0 (by have := outB_false.1 g; omega)).2.2; omega))) (fun v28 g28 => ?_)
 refine sg rfl rfl rfl (fun g => (fa32_1 (g28.1 g))) (fun v29 g29 => ?_)
 refine sg rfl rfl rfl (fun g => (yLd (g29.1 g) isAgg30 (((hs0 (by have := outB_false.1 g; omega)).2.1.ext hS.ext).at (j := 1) rfl))) (fun v30 g30 => ?_)
 refine sg rfl rfl rfl (fun g => (yLen (g30.1 g) underlying30)) (fun v31 g31 => ?_)
 refine sgc hS rfl rfl rfl call29 (fun g => (.cons (g31.1 g) e2)) (fun g => c_lout) ?_; clear hS; intro v32 w hS g32
 refine sv (yOr rfl rfl (fun hB => (g32.1 hB))) <| nil <| cwQ ?_
 refine cond rfl (fun c33 => ?_) (fun c33 => ?_)
 ·
  have h33 : (outB c.hist.length 1 8 || outB (nC c) 1 60) = true := c33
  refine seq <| region <| vA <| vA <| vA <| nil <| cwQ ?_
  refine wp_ret (thenR ?_)
  refine retQ (res3 rfl rfl rfl rfl) ?_
  rw [chk_2 h19 h33]
  exact ⟨_, _, rfl, hS.ext⟩
 have h33 : (outB c.hist.length 1 8 || outB (nC c) 1 60) = false := c33
 have h33b := h33
 rw [Bool.or_eq_false_iff, outB_false, outB_false] at h33b
 obtain ⟨hah0, hch0, hn0⟩ := hs0 (by omega)
 refine skip <| cwQ <| seq <| region <| sv (fa41_2 rfl) <| vL rfl isAgg39 hS rfl <| sv (yIxa (m := 0) rfl hah0 rfl runUnderlying39 sizeOf32 (by decide) (by omega)) <| sv (yLdA rfl isAgg32 sizeOf32 (hch0.ext hS.ext) rfl) ?_
 refine salloc hS zeroValue32 rfl fun b5 w hS => ?_
 refine sS hS rfl sizeOf32 fun w hS => ?_
 refine nil <| cwQ <| seq <| region <| sv (fa32_1 rfl) <| vL rfl isAgg30 hS rfl <| sv (yLen rfl underlying30) <| vA <| nil <| cwQ <| seq <| region <| vA ?_
 refine nil <| cwQ <| seq <| seq <| region <| sv (fa41_2 rfl) <| vL rfl isAgg39 hS rfl <| sv (yLen rfl underlying39) <| vM <| nil <| cwQ <| block <| loop (fun f w zz => ∃ (i : Nat), f 1 = ptQ b1 ∧ f 5 = ptQ b5 ∧ f 6 = .int .i64 (nC c : Int) ∧ f 7 = .func (.func 73) #[] #[] ∧ f 42 = .slice ah c.hist.length ch ∧ f 43 = .int .i64 (c.hist.length : Int) ∧ f 44 = .int .i64 (i : Int) ∧ StX [] w0 w [blk b5 [.int .i64 (frC c), .slice av0 (hsV c 0).length cv0] 32, blk b1 (ctQ c ar ap af ah ai cr cp cf ch ci) 41] ∧ (i ≤ c.hist.length) ∧ (firstN (histE c) c.hist.length 0 = firstN (histE c) (c.hist.length - i) i) ∧ zz = c.hist.length - i) _ ⟨_, rfl, 0, rfl, rfl, rfl, rfl, rfl, rfl, rfl, hS, (Nat.zero_le _), (rfl), rfl⟩ ?_
 clear hS
 rintro f w _ ⟨i, h1, h5, h6, h7, h42, h43, h44, hS, hil, hI, rfl⟩
 refine seq <| region <| sv (yLss h44 h43) <| nil <| cwQ <| seq ?_
 refine cond rfl ?_ ?_ <;> intro c45 <;> simp only [BS, ne_eq] at c45
 ·
  have hix : i < c.hist.length := by omega
  obtain ⟨mm, hmm⟩ : ∃ q, c.hist.length - i = q + 1 := ⟨c.hist.length - i - 1, by omega⟩
  rw [hmm] at hI
  obtain ⟨bx, ox, cx, hax, -, hcx, hRx, -⟩ := sl_at hH (hsS_get hix)
  obtain ⟨vx, rfl, hfx, hvx0⟩ := hRx
  have hvx : Sl w0 1 RInt vx (hsV c i) := hvx0
  obtain ⟨avi, cvi, rfl, hvc, hvm, -⟩ := id hvx
  refine skip <| cwQ <| seq <| block <| seq <| region <| sv (yMove h44) <| sv (yIxQ h42 hax h44 runUnderlying39 sizeOf32) <| sv (yLdA rfl isAgg32 sizeOf32 (hcx.ext hS.ext) rfl) ?_
  refine salloc hS zeroValue32 rfl fun b9 w hS => ?_
  refine vA ?_
  refine sS hS rfl sizeOf32 fun w hS => ?_
  refine nil <| cwQ <| block <| seq <| region <| sv (fa32_0 rfl) <| vL rfl isAgg3 hS rfl <| sv (fa32_0 h5) <| vL rfl isAgg3 hS rfl <| sv (yNeq rfl rfl) <| vM ?_
  refine sg rfl rfl rfl (fun g => (fa32_1 rfl)) (fun v56 g56 => ?_)
  refine sg rfl rfl rfl (fun g => (yLdB (g56.1 g) isAgg30 (hS.at _) rfl)) (fun v57 g57 => ?_)
  refine sg rfl rfl rfl (fun g => (yLen (g57.1 g) underlying30)) (fun v58 g58 => ?_)
  refine sg rfl rfl rfl (fun g => (yMove h6)) (fun v59 g59 => ?_)
  refine sg rfl rfl rfl (fun g => (yNeq (g58.1 g) (g59.1 g))) (fun v60 g60 => ?_)
  refine sv (yOr rfl rfl (fun hB => (g60.1 hB))) <| vA <| nil <| cwQ ?_
  refine cond rfl ?_ ?_ <;> intro c49 <;> simp only [BS, ne_eq] at c49
  ·
   refine seq <| region <| vM <| vA <| vA <| vA <| nil <| cwQ ?_
   refine wp_ret (blockR (blockR (thenR (thenR (blockR (thenR ?_))))))
   refine retQ (res3 rfl rfl rfl rfl) ?_
   rw [chk_3 h19 h33 hI (by rw [hist_e2 c49]; decide), hist_e2 c49]
   exact ⟨_, _, rfl, hS.ext⟩
  refine seq <| region <| sv (fa32_0 rfl) <| vL rfl isAgg3 hS rfl <| sv (yMove h6) <| sv (ySubQ rfl rfl) <| sv (yAddQ rfl rfl) ?_
  refine scV hS call29 e3 c_lout fun w hS => ?_
  refine vM ?_
  refine sg rfl rfl rfl (fun g => (fa32_1 rfl)) (fun v71 g71 => ?_)
  refine sg rfl rfl rfl (fun g => (yLdB (g71.1 g) isAgg30 (hS.at _) rfl)) (fun v72 g72 => ?_)
  refine sg rfl rfl rfl (fun g => (yMove h7)) (fun v73 g73 => ?_)
  refine sgc hS rfl rfl rfl call51 (fun g => (.cons (g72.1 g) (.cons (g73.1 g) .nil))) (fun g => (c_ContainsFuncInt (p := fun v => outB v (-20000) 20000) (hvx.ext RInt.stays hS.ext) call73 (fun x cs w _ _ _ => c_chk1))) ?_; clear hS; intro v74 w hS g74
  refine sv (yOr rfl rfl (fun hB => (g74.1 hB))) <| vA <| nil <| cwQ ?_
  refine cond rfl (fun c63 => ?_) (fun c63 => ?_)
  ·
   refine seq <| region <| vM <| vA <| vA <| vA <| nil <| cwQ ?_
   refine wp_ret (blockR (blockR (thenR (thenR (blockR (thenR ?_))))))
   refine retQ (res3 rfl rfl rfl rfl) ?_
   rw [chk_3 h19 h33 hI (by rw [hist_e7 c49 c63]; decide), hist_e7 c49 c63]
   exact ⟨_, _, rfl, hS.ext⟩
  refine skip <| cwQ <| region <| sv (yAddQ h44 rfl) <| vM <| nil ?_
  exact ⟨_, _, rfl, ⟨i + 1, h1, h5, h6, h7, h42, h43, rfl, (sbQ hS), (by omega), (by rw [hI, firstN_step (hist_e0 c49 c63), show mm = c.hist.length - (i + 1) by omega]), rfl⟩, by omega⟩
 have hIe : firstN (histE c) c.hist.length 0 = firstN (histE c) 0 c.hist.length := by rw [hI, show c.hist.length - i = 0 by omega]; rfl
 refine exit <| cwQ <| seq <| region <| vA <| nil <| cwQ <| seq <| block <| seq <| region <| sv (fa41_3 h1) <| vL rfl isAgg30 hS rfl ?_
 refine sv (yLen rfl underlying30) <| sv (yMove h6) <| sv (yNeq rfl rfl) <| vA <| nil <| cwQ ?_
 refine cond rfl ?_ ?_ <;> intro c78 <;> simp only [BS, ne_eq] at c78
 ·
  refine seq <| region <| vA <| vA <| vA <| nil <| cwQ ?_
  refine wp_ret (blockR (thenR ?_))
  refine retQ (res3 rfl rfl rfl rfl) ?_
  rw [chk_4 h19 h33 hIe c78]
  exact ⟨_, _, rfl, hS.ext⟩
 refine seq <| region <| sv (fa41_3 h1) <| vL rfl isAgg30 hS rfl <| vM ?_
 refine scV hS call51 e2 (c_ContainsFuncInt (p := fun v => outB v 0 10000000) (hR.ext RInt.stays hS.ext) call74 (fun x cs w _ _ _ => c_chk2)) fun w hS => ?_
 refine vA <| nil <| cwQ ?_
 refine cond rfl (fun c84 => ?_) (fun c84 => ?_)
 ·
  refine seq <| region <| vA <| vA <| vA <| nil <| cwQ ?_
  refine wp_ret (blockR (thenR ?_))
  refine retQ (res3 rfl rfl rfl rfl) ?_
  rw [chk_5 h19 h33 hIe c78 c84]
  exact ⟨_, _, rfl, hS.ext⟩
 refine seq <| region <| sv (fa41_1 h1) <| vL rfl isAgg30 hS rfl <| sv (yLen rfl underlying30) <| sv (fa41_0 h1) <| sv (fa38_4 rfl) <| vL rfl isAgg36 hS rfl <| sv (yLen rfl underlying36) <| sv (yNeq rfl rfl) <| vA <| nil <| cwQ ?_
 refine cond rfl ?_ ?_ <;> intro c89 <;> simp only [BS, ne_eq] at c89
 ·
  refine seq <| region <| vA <| vA <| vA <| nil <| cwQ ?_
  refine wp_ret (blockR (thenR ?_))
  refine retQ (res3 rfl rfl rfl rfl) ?_
  rw [chk_6 h19 h33 hIe c78 c84 c89]
  exact ⟨_, _, rfl, hS.ext⟩
 obtain ⟨br0, or0, cr0, har0, -, hcr0, hRr0, -⟩ := sl_at hbs (brow_get (b := c.bas) (show 0 < c.bas.rows.length by omega))
 obtain ⟨rfl, -⟩ := hRr0
 refine seq ?_
 rcases lim3 c with hc3 | ⟨hc3, hc4⟩ | ⟨hc3, hc4⟩
 ·
  refine region_mix (fun w => StX [] w0 w [blk b1 (ctQ c ar ap af ah ai cr cp cf ch ci) 41]) 21 mixed hS ?_
  clear hS; intro w hS
  refine fsQ 0 rfl (fun w hS => yMove rfl) <| fsQ 1 rfl (fun w hS => fa41_4 h1) <| fsQ 2 rfl (fun w hS => yLdB rfl isAgg3 (hS.at _) rfl) <| awQ <| a1Q 3 rfl ?_
  refine scallf rfl call74 e1 c_chk2 ?_
  rintro _ w ⟨rfl, hE⟩; replace hS := hS.step hE; clear hE
  refine nil <| kpQ <| awQ <| fsQ 4 rfl (fun w hS => yMove rfl) ?_
  refine fkR 5 rfl rfl (sbQ hS) (u := .bool (outB c.out 0 10000000)) rfl (by rw [hc3]; simp) ?_
  refine fkR 6 rfl rfl (sbQ hS) (u := .bool (outB c.out 0 10000000)) rfl (by rw [hc3]; simp) ?_
  refine fkR 7 rfl rfl (sbQ hS) (u := .bool (outB c.out 0 10000000)) rfl (by rw [hc3]; simp) ?_
  refine fkR 8 rfl rfl (sbQ hS) (u := .bool (outB c.out 0 10000000)) rfl (by rw [hc3]; simp) ?_
  refine fkR 9 rfl rfl (sbQ hS) (u := .bool (outB c.out 0 10000000)) rfl (by rw [hc3]; simp) ?_
  refine fkR 10 rfl rfl (sbQ hS) (u := .bool (outB c.out 0 10000000)) rfl (by rw [hc3]; simp) ?_
  refine fkR 11 rfl rfl (sbQ hS) (u := .bool (outB c.out 0 10000000)) rfl (by rw [hc3]; simp) ?_
  refine fkR 12 rfl rfl (sbQ hS) (u := .bool (outB c.out 0 10000000)) rfl (by rw [hc3]; simp) ?_
  refine fkR 13 rfl rfl (sbQ hS) (u := .bool (outB c.out 0 10000000)) rfl (by rw [hc3]; simp) ?_
  refine fsQ 14 rfl (fun w hS => yOr1 rfl hc3 rfl) <| fsQ 15 rfl (fun w hS => yMove rfl) <| fkR 16 rfl rfl (sbQ hS) (u := .bool true) rfl (by simp) <| fkR 17 rfl rfl (sbQ hS) (u := .bool true) rfl (by simp) <| fkR 18 rfl rfl (sbQ hS) (u := .bool true) rfl (by simp) <| fsQ 19 rfl (fun w hS => yOr1 rfl rfl rfl) <| fsQ 20 rfl (fun w hS => yAsg rfl) <| a_end (by kernel_rfl) <| cwQ ?_
  refine cond rfl (fun c98 => ?_) (fun c98 => ?_)
  ·
   have h98 : (outB c.out 0 10000000 || outB c.limit (lvB c.bas 0) 20000 || outB c.delay 0 30) = true := by first | (rw [hc3]; rfl) | (rw [hc3, hc4]; rfl) | (rw [hc3, hc4, c98]; rfl)
   refine seq <| region <| vA <| vA <| vA <| nil <| cwQ ?_
   refine wp_ret (blockR (thenR ?_))
   refine retQ (res3 rfl rfl rfl rfl) ?_
   rw [chk_7 h19 h33 hIe c78 c84 c89 h98]
   exact ⟨_, _, rfl, hS.ext⟩
  have h98 : (outB c.out 0 10000000 || outB c.limit (lvB c.bas 0) 20000 || outB c.delay 0 30) = false := by first | cases c98 | (rw [hc3, hc4]; exact c98)
  refine seq <| region <| sv (fa41_1 h1) <| vL rfl isAgg30 hS rfl <| sv (yFn (.cons h1 .nil)) ?_
  refine scV hS call48 e2 (c_whereQ (p := fun i v => outB v 0 (plB c.bas i).room) (hFl.ext RInt.stays hS.ext) call75 (fun i w hi e => c_chk3 (e.get (hS.at b1)) (hbp.ext RPol.stays (hS.ext.trans e)) (by omega))) fun w hS => ?_
  refine sv (yGeq rfl rfl) <| vA <| nil <| cwQ ?_
  refine cond rfl ?_ ?_ <;> intro c119 <;> simp only [BS, ne_eq] at c119
  ·
   refine seq <| region <| vA <| vA <| vA <| nil <| cwQ ?_
   refine wp_ret (blockR (thenR ?_))
   refine retQ (res3 rfl rfl rfl rfl) ?_
   rw [chk_8 h19 h33 hIe c78 c84 c89 h98 rfl, if_pos c119]
   exact ⟨_, _, rfl, hS.ext⟩
  refine skip <| cwQ <| seq <| region <| vA <| vA <| vA <| nil <| cwQ <| wp_ret <| retQ (res3 rfl rfl rfl rfl) ?_
  rw [chk_8 h19 h33 hIe c78 c84 c89 h98 rfl, if_neg c119]
  exact ⟨_, _, rfl, hS.ext⟩
 ·
  refine region_mix (fun w => StX [] w0 w [blk b1 (ctQ c ar ap af ah ai cr cp cf ch ci) 41]) 21 mixed hS ?_
  clear hS; intro w hS
  refine fsQ 0 rfl (fun w hS => yMove rfl) <| fsQ 1 rfl (fun w hS => fa41_4 h1) <| fsQ 2 rfl (fun w hS => yLdB rfl isAgg3 (hS.at _) rfl) <| awQ <| a1Q 3 rfl ?_
  refine scallf rfl call74 e1 c_chk2 ?_
  rintro _ w ⟨rfl, hE⟩; replace hS := hS.step hE; clear hE
  refine nil <| kpQ <| awQ <| fsQ 4 rfl (fun w hS => yMove rfl) <| fgR 5 rfl rfl (sbQ hS) (congrArg Value.bool hc3) (fun w hS => fa41_5 h1) <| fgR 6 rfl rfl (sbQ hS) (congrArg Value.bool hc3) (fun w hS => yLdB rfl isAgg3 (hS.at _) rfl) <| fgR 7 rfl rfl (sbQ hS) (congrArg Value.bool hc3) (fun w hS => fa41_0 h1) <| fgR 8 rfl rfl (sbQ hS) (congrArg Value.bool hc3) (fun w hS => fa38_0 rfl) <| fgR 9 rfl rfl (sbQ hS) (congrArg Value.bool hc3) (fun w hS => yLdB rfl isAgg35 (hS.at _) rfl) <| fgR 10 rfl rfl (sbQ hS) (congrArg Value.bool hc3) (fun w hS => yIxa (m := 0) rfl har0 rfl runUnderlying35 sizeOf171 (by decide) (by omega)) <| fgR 11 rfl rfl (sbQ hS) (congrArg Value.bool hc3) (fun w hS => fa171_0 rfl) <| fgR 12 rfl rfl (sbQ hS) (congrArg Value.bool hc3) (fun w hS => yLd rfl isAgg3 ((hcr0.ext hS.ext).at (j := 0) rfl)) <| awQ ?_
  refine a1Q 13 rfl <| ungo rfl rfl (congrArg Value.bool hc3) ?_
  refine scV hS call29 e3 c_lout fun w hS => ?_
  refine nil <| kpQ <| awQ <| fsQ 14 rfl (fun w hS => Y.to (yOr0 rfl hc3 rfl rfl) (congrArg Value.bool hc4)) <| fsQ 15 rfl (fun w hS => yMove rfl) <| fkR 16 rfl rfl (sbQ hS) (u := .bool true) rfl (by simp) <| fkR 17 rfl rfl (sbQ hS) (u := .bool true) rfl (by simp) <| fkR 18 rfl rfl (sbQ hS) (u := .bool true) rfl (by simp) <| fsQ 19 rfl (fun w hS => yOr1 rfl rfl rfl) <| fsQ 20 rfl (fun w hS => yAsg rfl) <| a_end (by kernel_rfl) <| cwQ ?_
  refine cond rfl (fun c98 => ?_) (fun c98 => ?_)
  ·
   have h98 : (outB c.out 0 10000000 || outB c.limit (lvB c.bas 0) 20000 || outB c.delay 0 30) = true := by first | (rw [hc3]; rfl) | (rw [hc3, hc4]; rfl) | (rw [hc3, hc4, c98]; rfl)
   refine seq <| region <| vA <| vA <| vA <| nil <| cwQ ?_
   refine wp_ret (blockR (thenR ?_))
   refine retQ (res3 rfl rfl rfl rfl) ?_
   rw [chk_7 h19 h33 hIe c78 c84 c89 h98]
   exact ⟨_, _, rfl, hS.ext⟩
  have h98 : (outB c.out 0 10000000 || outB c.limit (lvB c.bas 0) 20000 || outB c.delay 0 30) = false := by first | cases c98 | (rw [hc3, hc4]; exact c98)
  refine seq <| region <| sv (fa41_1 h1) <| vL rfl isAgg30 hS rfl <| sv (yFn (.cons h1 .nil)) ?_
  refine scV hS call48 e2 (c_whereQ (p := fun i v => outB v 0 (plB c.bas i).room) (hFl.ext RInt.stays hS.ext) call75 (fun i w hi e => c_chk3 (e.get (hS.at b1)) (hbp.ext RPol.stays (hS.ext.trans e)) (by omega))) fun w hS => ?_
  refine sv (yGeq rfl rfl) <| vA <| nil <| cwQ ?_
  refine cond rfl ?_ ?_ <;> intro c119 <;> simp only [BS, ne_eq] at c119
  ·
   refine seq <| region <| vA <| vA <| vA <| nil <| cwQ ?_
   refine wp_ret (blockR (thenR ?_))
   refine retQ (res3 rfl rfl rfl rfl) ?_
   rw [chk_8 h19 h33 hIe c78 c84 c89 h98 rfl, if_pos c119]
   exact ⟨_, _, rfl, hS.ext⟩
  refine skip <| cwQ <| seq <| region <| vA <| vA <| vA <| nil <| cwQ <| wp_ret <| retQ (res3 rfl rfl rfl rfl) ?_
  rw [chk_8 h19 h33 hIe c78 c84 c89 h98 rfl, if_neg c119]
  exact ⟨_, _, rfl, hS.ext⟩
 refine region_mix (fun w => StX [] w0 w [blk b1 (ctQ c ar ap af ah ai cr cp cf ch ci) 41]) 21 mixed hS ?_
 clear hS; intro w hS
 refine fsQ 0 rfl (fun w hS => yMove rfl) <| fsQ 1 rfl (fun w hS => fa41_4 h1) <| fsQ 2 rfl (fun w hS => yLdB rfl isAgg3 (hS.at _) rfl) <| awQ <| a1Q 3 rfl ?_
 refine scallf rfl call74 e1 c_chk2 ?_
 rintro _ w ⟨rfl, hE⟩; replace hS := hS.step hE; clear hE
 refine nil <| kpQ <| awQ <| fsQ 4 rfl (fun w hS => yMove rfl) <| fgR 5 rfl rfl (sbQ hS) (congrArg Value.bool hc3) (fun w hS => fa41_5 h1) <| fgR 6 rfl rfl (sbQ hS) (congrArg Value.bool hc3) (fun w hS => yLdB rfl isAgg3 (hS.at _) rfl) <| fgR 7 rfl rfl (sbQ hS) (congrArg Value.bool hc3) (fun w hS => fa41_0 h1) <| fgR 8 rfl rfl (sbQ hS) (congrArg Value.bool hc3) (fun w hS => fa38_0 rfl) <| fgR 9 rfl rfl (sbQ hS) (congrArg Value.bool hc3) (fun w hS => yLdB rfl isAgg35 (hS.at _) rfl) <| fgR 10 rfl rfl (sbQ hS) (congrArg Value.bool hc3) (fun w hS => yIxa (m := 0) rfl har0 rfl runUnderlying35 sizeOf171 (by decide) (by omega)) <| fgR 11 rfl rfl (sbQ hS) (congrArg Value.bool hc3) (fun w hS => fa171_0 rfl) <| fgR 12 rfl rfl (sbQ hS) (congrArg Value.bool hc3) (fun w hS => yLd rfl isAgg3 ((hcr0.ext hS.ext).at (j := 0) rfl)) <| awQ ?_
 refine a1Q 13 rfl <| ungo rfl rfl (congrArg Value.bool hc3) ?_
 refine scV hS call29 e3 c_lout fun w hS => ?_
 refine nil <| kpQ <| awQ <| fsQ 14 rfl (fun w hS => Y.to (yOr0 rfl hc3 rfl rfl) (congrArg Value.bool hc4)) <| fsQ 15 rfl (fun w hS => yMove rfl) <| fgR 16 rfl rfl (sbQ hS) rfl (fun w hS => fa41_6 h1) <| fgR 17 rfl rfl (sbQ hS) rfl (fun w hS => yLdB rfl isAgg3 (hS.at _) rfl) <| awQ <| a1Q 18 rfl <| ungo rfl rfl rfl ?_
 refine scV hS call29 e3 c_lout fun w hS => ?_
 refine nil <| kpQ <| awQ <| fsQ 19 rfl (fun w hS => yOr0 rfl rfl rfl rfl) <| fsQ 20 rfl (fun w hS => yAsg rfl) <| a_end (by kernel_rfl) <| cwQ ?_
 refine cond rfl (fun c98 => ?_) (fun c98 => ?_)
 ·
  have h98 : (outB c.out 0 10000000 || outB c.limit (lvB c.bas 0) 20000 || outB c.delay 0 30) = true := by first | (rw [hc3]; rfl) | (rw [hc3, hc4]; rfl) | (rw [hc3, hc4, c98]; rfl)
  refine seq <| region <| vA <| vA <| vA <| nil <| cwQ ?_
  refine wp_ret (blockR (thenR ?_))
  refine retQ (res3 rfl rfl rfl rfl) ?_
  rw [chk_7 h19 h33 hIe c78 c84 c89 h98]
  exact ⟨_, _, rfl, hS.ext⟩
 have h98 : (outB c.out 0 10000000 || outB c.limit (lvB c.bas 0) 20000 || outB c.delay 0 30) = false := by first | cases c98 | (rw [hc3, hc4]; exact c98)
 refine seq <| region <| sv (fa41_1 h1) <| vL rfl isAgg30 hS rfl <| sv (yFn (.cons h1 .nil)) ?_
 refine scV hS call48 e2 (c_whereQ (p := fun i v => outB v 0 (plB c.bas i).room) (hFl.ext RInt.stays hS.ext) call75 (fun i w hi e => c_chk3 (e.get (hS.at b1)) (hbp.ext RPol.stays (hS.ext.trans e)) (by omega))) fun w hS => ?_
 refine sv (yGeq rfl rfl) <| vA <| nil <| cwQ ?_
 refine cond rfl ?_ ?_ <;> intro c119 <;> simp only [BS, ne_eq] at c119
 ·
  refine seq <| region <| vA <| vA <| vA <| nil <| cwQ ?_
  refine wp_ret (blockR (thenR ?_))
  refine retQ (res3 rfl rfl rfl rfl) ?_
  rw [chk_8 h19 h33 hIe c78 c84 c89 h98 rfl, if_pos c119]
  exact ⟨_, _, rfl, hS.ext⟩
 refine skip <| cwQ <| seq <| region <| vA <| vA <| vA <| nil <| cwQ <| wp_ret <| retQ (res3 rfl rfl rfl rfl) ?_
 rw [chk_8 h19 h33 hIe c78 c84 c89 h98 rfl, if_neg c119]
 exact ⟨_, _, rfl, hS.ext⟩
end Go.Proofs.YtchbdfcbogjhcaaGreatDoor
namespace Bx
open Go Go.RowKit
def bkI (l : List Int) : Nat → List (Int × Int)
 | 0 => []
 | k + 1 => ((k : Int), l.getD k 0) :: bkI l k
abbrev BkI := List (Int × Int)
def bkIC (y : Int × Int) : List Value := [.int .i64 y.1, .int .i64 y.2]
theorem bkI_mem {l : List Int} : ∀ {k : Nat} {y : Int × Int}, y ∈ bkI l k → ∃ j : Nat, j < k ∧ y = ((j : Int), l.getD j 0)
  | k + 1, y, h => by
    rw [bkI] at h
    rcases List.mem_cons.1 h with rfl | h
    · exact ⟨k, by omega, rfl⟩
    · obtain ⟨j, h1, h2⟩ := bkI_mem h
      exact ⟨j, by omega, h2⟩
def hitI (lim : Int) (y : Int × Int) : Bool := decide (lim < y.2)
theorem bkI_none {lim : Int} {l : List Int} : ∀ {k : Nat}, (∀ z ∈ bkI l k, hitI lim z = false) → lastHi lim l k = 0
  | 0, _ => rfl
  | k + 1, h => by
    rw [lastHi, if_neg (by have := h ((k : Int), l.getD k 0) (by rw [bkI]; exact List.mem_cons_self ..); unfold hitI at this; exact of_decide_eq_false this)]
    exact bkI_none fun z hz => h z (by rw [bkI]; exact List.mem_cons_of_mem _ hz)
theorem bkI_first {lim : Int} {l : List Int} : ∀ {k : Nat} {pre : List (Int × Int)} {y : Int × Int}, (pre ++ [y]) <+: bkI l k → (∀ z ∈ pre, hitI lim z = false) → hitI lim y = true → ((lastHi lim l k : Nat) : Int) = y.1 + 1
  | 0, pre, y, h, _, _ => by
    have := h.subset (List.mem_append_right _ (List.mem_singleton_self y))
    cases this
  | k + 1, [], y, h, _, hy => by
    rw [bkI] at h
    obtain ⟨r, hr⟩ := h
    have he : y = ((k : Int), l.getD k 0) := by simpa using congrArg List.head? hr
    subst he
    rw [lastHi, if_pos (of_decide_eq_true hy)]
    simp
  | k + 1, p :: pre, y, h, hn, hy => by
    rw [bkI, List.cons_append] at h
    obtain ⟨r, hr⟩ := h
    rw [List.cons_append] at hr
    have he : p = ((k : Int), l.getD k 0) := (List.cons.inj hr).1
    have h0 := hn p (List.mem_cons_self ..)
    subst he
    rw [lastHi, if_neg (of_decide_eq_false h0)]
    exact bkI_first ⟨r, (List.cons.inj hr).2⟩ (fun z hz => hn z (List.mem_cons_of_mem _ hz)) hy
theorem quiet_none {c : Clt} {k : Nat} (h : ∀ z ∈ bkI (hsV c k) (hsV c k).length, hitI c.limit z = false) : quietK c (k + 1) = quietK c k := by
 rw [quietK_succ, bkI_none h]; omega
theorem quiet_hit {c : Clt} {k : Nat} {pre : List (Int × Int)} {y : Int × Int} (h : (pre ++ [y]) <+: bkI (hsV c k) (hsV c k).length) (hn : ∀ z ∈ pre, hitI c.limit z = false) (hy : hitI c.limit y = true) : max ((quietK c k : Nat) : Int) (y.1 + 1) = ((quietK c (k + 1) : Nat) : Int) := by
 rw [quietK_succ, ← bkI_first h hn hy]; omega
theorem hit_snoc {lim : Int} {pre : List (Int × Int)} {y : Int × Int} (hn : ∀ z ∈ pre, hitI lim z = false) (h : hitI lim y = false) : ∀ z ∈ pre ++ [y], hitI lim z = false := fun z hz => by
 rcases List.mem_append.1 hz with hz | hz
 ·
  exact hn z hz
 ·
  rw [List.mem_singleton.1 hz]; exact h
def dnI : Nat → List Int
 | 0 => []
 | k + 1 => (k : Int) :: dnI k
def dnC (i : Int) : List Value := [.int .i64 i]
theorem dnI_mem : ∀ {k : Nat} {i : Int}, i ∈ dnI k → ∃ j : Nat, j < k ∧ i = (j : Int)
  | k + 1, i, h => by
    rw [dnI] at h
    rcases List.mem_cons.1 h with rfl | h
    · exact ⟨k, by omega, rfl⟩
    · obtain ⟨j, h1, h2⟩ := dnI_mem h
      exact ⟨j, by omega, h2⟩
theorem dnI_at : ∀ {k : Nat} {pre : List Int} {i : Int}, (pre ++ [i]) <+: dnI k → ∃ j : Nat, j < k ∧ i = (j : Int) ∧ pre.length = k - 1 - j
  | 0, pre, y, h => by
    have := h.subset (List.mem_append_right _ (List.mem_singleton_self y))
    cases this
  | k + 1, [], y, h => by
    rw [dnI] at h
    obtain ⟨r, hr⟩ := h
    have he : y = (k : Int) := by simpa using congrArg List.head? hr
    exact ⟨k, by omega, he, by simp⟩
  | k + 1, p :: pre, y, h => by
    rw [dnI, List.cons_append] at h
    obtain ⟨r, hr⟩ := h
    rw [List.cons_append] at hr
    obtain ⟨j, h1, h2, h3⟩ := dnI_at (k := k) (pre := pre) (i := y) ⟨r, (List.cons.inj hr).2⟩
    exact ⟨j, by omega, h2, by rw [List.length_cons, h3]; omega⟩
theorem marks_in5 {S : List Nat} {w0 w : World} {D : Nat} {Ds : List Nat} {x : Item} {L : List Item} (h : StX S w0 w (obj D (.deferred (some [])) :: x :: packI (marks Ds) :: L)) : StX S w0 w (x :: packI (marks (D :: Ds)) :: L) := by
 have h1 : StX S w0 w (obj D (.deferred (some [])) :: packI (marks Ds) :: x :: L) := h.perm ((List.Perm.swap _ _ _).cons _)
 exact h1.mark.perm (List.Perm.swap _ _ _)
end Bx
namespace Go.Proofs.YtchbdfcbogjhcaaGreatDoor
open Go Bx Go.Proofs.Tryz
theorem c_BackI {l : List Int} {al : Option Addr} {cl : Nat} {w0 : World} : CE Tryz.prog 47 #[.slice al l.length cl] w0 (fun u w' => ∃ p1, u = .func (.func 76) #[] [ptQ p1].toArray ∧ St w0 w' [blk p1 [.slice al l.length cl] 30]) := by
 refine enQ func47 rfl ntmps47 rfl fun hS => ?_
 refine seq <| region ?_
 refine sbox hS rfl rfl fun b1 w hS => ?_
 refine vA <| nil <| cwQ <| seq <| region <| sv (yFn e1) <| vA <| nil <| cwQ <| wp_ret <| retQ (res1 rfl rfl) ?_
 exact ⟨b1, rfl, hS⟩
theorem it_BackI {l : List Int} {al : Option Addr} {cl : Nat} {p1 : Nat} {w0 : World} (hl : Sl w0 1 RInt (.slice al l.length cl) l) : ItC Tryz.prog 76 [ptQ p1] w0 [blk p1 [.slice al l.length cl] 30] bkIC (bkI l l.length) := by
 obtain ⟨_, _, hle, hlcap, hlmx, hlel⟩ := id hl
 obtain ⟨rfl, rfl⟩ := slice_inj hle.symm
 intro yl Cb w L hY h0 hS
 replace hS : StX [] w0 w (blk p1 [.slice al l.length cl] 30 :: L) := hS
 refine enterX func76 rfl ntmps76 rfl ?_
 skip
 refine seqX <| regionX rfl <| vL rfl isAgg30 hS rfl <| sv (yLen rfl underlying30) <| sv (ySubQ rfl rfl) <| vA <| nil <| cxQ <| blockX <| loopX (fun f w zz => ∃ (k : Nat) (i : Int) (P : BkI) (L : List Bx.Item), f 0 = .func (.yield yl) #[] #[] ∧ f 1 = ptQ p1 ∧ f 3 = .int .i64 i ∧ StX [] w0 w (blk p1 [.slice al l.length cl] 30 :: L) ∧ (k ≤ l.length) ∧ (i = (k : Int) - 1) ∧ (P ++ bkI l k = bkI l l.length) ∧ (Cb true P L) ∧ zz = k + 1) _ ⟨_, rfl, l.length, _, [], L, rfl, rfl, rfl, hS, (Nat.le_refl _), (rfl), (rfl), (h0), rfl⟩ ?_
 clear hS
 rintro f w _ ⟨k, i, P, L, h0, h1, h3, hS, hk, hik, hP, hcb, rfl⟩
 refine seqX <| seqX <| regionX rfl <| sv (yMove h3) <| sv (yGeq rfl rfl) <| nil <| cxQ ?_
 refine condX rfl (fun c8 => ?_) (fun c8 => ?_)
 ·
  simp only [BS, ne_eq] at c8
  obtain ⟨j, rfl⟩ : ∃ j, k = j + 1 := ⟨k - 1, by omega⟩
  obtain rfl : i = (j : Int) := by omega
  obtain ⟨bx, ox, csx, hax, -, hcsx, hRx, -⟩ := sl_at hl (getD_get (l := l) (i := j) (by omega))
  obtain ⟨rfl, hix⟩ := hRx
  rw [bkI] at hP
  refine skipX <| cxQ <| seqX <| blockX <| seqX <| regionL <| preX 6 rfl <| sv (yMove h0) <| sv (yMove h3) <| sv (yLdB h1 isAgg30 (hS.at _) rfl) <| sv (yMove h3) <| sv (yIxQ rfl hax rfl runUnderlying30 sizeOf3) <| sv (yLd rfl isAgg3 (hcsx.ext hS.ext).one) ?_
  refine nil ?_
  show wpListIn _ _ _ _ _ _ _ _
  refine yieldU rfl e2 (hY P ((j : Int), l.getD j 0) w L [blk p1 [.slice al l.length cl] 30] ⟨_, by rw [List.append_assoc]; exact hP⟩ hcb hS) ?_
  clear hS hcb; rintro _ w ⟨bq, L, rfl, hcb, hS⟩
  replace hS : StX [] w0 w (blk p1 [.slice al l.length cl] 30 :: L) := hS
  refine endX rfl <| sv (yNot rfl) <| nil <| cxQ ?_
  refine condX rfl (fun c18 => ?_) (fun c18 => ?_)
  ·
   obtain rfl : bq = false := by cases bq; rfl; cases c18
   refine wpIn_ret (blockR (thenR (thenR (blockR ?_))))
   refine leafX (results_none rfl _ _ _) ?_
   exact ⟨L, hS.sub (.cons _ lrQ), .inr ⟨_, hcb⟩⟩
  obtain rfl : bq = true := by cases bq; cases c18; rfl
  refine skipX <| cxQ <| regionX rfl <| sv (yMove h3) <| sv (ySubQ rfl rfl) <| vA <| nil ?_
  exact ⟨_, _, rfl, ⟨j, _, P ++ [((j : Int), l.getD j 0)], L, h0, h1, rfl, hS, (by omega), (rfl), (by rw [List.append_assoc]; exact hP), (hcb), rfl⟩, by omega⟩
 simp only [BS, ne_eq] at c8
 obtain rfl : k = 0 := by omega
 rw [show bkI l 0 = [] from rfl, List.append_nil] at hP
 subst hP
 refine exitX ?_
 show bodyPostM (FX none) 0 _ _ _ .normal _ _
 refine leafXN (results_none rfl _ _ _) ?_
 exact ⟨L, hS.sub (.cons _ lrQ), .inl hcb⟩
theorem c_begin5 {c : Clt} {ar ap af ah ai : Option Addr} {cr cp cf ch ci : Nat} {w0 : World} (hT : RClt w0 (ctQ c ar ap af ah ai cr cp cf ch ci) c) : CE Tryz.prog 24 #[.agg (ctQ c ar ap af ah ai cr cp cf ch ci).toArray] w0 (fun u w' => (chkE c ≠ 0 ∧ u = .tuple #[.pointer none, .int .i64 (chkE c)] ∧ Ext w0 w') ∨ (chkE c = 0 ∧ ∃ g m, u = .tuple #[ptQ g, .int .i64 0] ∧ St w0 w' [blk g (gcQ c ar ap af ah ai cr cp cf ch ci m) 108, mapI m encSp [], packI (vsI c [])])) := by
 refine enterX func24 rfl ntmps24 rfl ?_
 have hS := St.start w0
 refine seqX <| regionX rfl ?_
 refine sbox hS rfl rfl ?_; clear hS; intro b1 w hS
 refine vA <| vA <| nil <| cxQ <| seqX <| seqX <| regionX rfl <| sv (yLdBA rfl isAgg41 sizeOf41 (hS.at _) rfl rfl) ?_
 refine scall call46 e1 (c_CheckC (hT.ext hS.ext)) ?_
 rintro _ w ⟨a9, e9, rfl, hE⟩; replace hS := hS.step hE; clear hE
 refine vM <| sv (yExt rfl rfl) <| sv (yExt rfl rfl) <| sv (yExt rfl rfl) <| vA <| vA <| vA <| nil <| cxQ <| seqX <| regionX rfl <| vM <| sv (yNeq rfl rfl) ?_
 refine nil <| cxQ ?_
 refine condX rfl (fun c18 => ?_) (fun c18 => ?_)
 ·
  simp only [BS, ne_eq] at c18
  have hc0 : chkE c ≠ 0 := c18
  refine seqX <| regionX rfl <| vM <| vA <| vA <| nil <| cxQ ?_
  refine wpIn_ret (thenR ?_)
  refine leafX (res2 rfl rfl rfl) ?_
  exact .inl ⟨hc0, rfl, hS.ext⟩
 simp only [BS, ne_eq] at c18
 have hc0 : chkE c = 0 := c18
 have hok := cl_ok hc0
 have hd := hok.del
 have hn := hok.n
 have hf := hok.frm
 have hr := hok.riv.1
 obtain ⟨hB, hFl, hFr, hH, hR⟩ := clt_parts hT
 have hnh := hok.nh
 have hrv := hok.riv.1
 obtain ⟨bh0, oh0, ch0, hah0, -, hch0, hRh0, -⟩ := sl_at hH (hsS_get (c := c) (k := 0) (by omega))
 obtain ⟨vv0, rfl, -, -⟩ := hRh0
 refine skipX <| cxQ ?_
 refine seqXJ (n := 64) (ds := []) (fun f w => ∃ (b7 b29 b31 : Nat), f 1 = ptQ b1 ∧ f 7 = ptQ b7 ∧ StX [] w0 w (blk b7 [ptQ b31] 89 :: blk b31 [.slice ar c.bas.rows.length cr, .int .i64 c.bas.leak, .int .i64 c.bas.crest, .int .i64 c.bas.over, .slice ap c.bas.pols.length cp, .slice af c.filled.length cf, .slice ah c.hist.length ch, .slice ai c.river.length ci, .int .i64 c.out, .int .i64 c.limit, .int .i64 c.delay, .int .i64 (frC c), .int .i64 (nC c : Int), .int .i64 (quietK c 0 : Int), .map (some b29)] 108 :: mapI b29 encSp [] :: blk b1 (ctQ c ar ap af ah ai cr cp cf ch ci) 41 :: ([] : List Bx.Item)) ∧ True) ?_ ?_
 ·
  refine region_anyX (C := (fun w => StX [] w0 w [blk b1 (ctQ c ar ap af ah ai cr cp cf ch ci) 41])) mixed 0 14 (by kernel_rfl) rfl hS (fun w hS => sbQ hS) ?_
  clear hS; intro w hS
  refine hnil <| fsQ 0 rfl (fun w hS => yLdBA rfl isAgg41 sizeOf41 (hS.at _) rfl rfl) <| fsQ 1 rfl (fun w hS => fa41_2 rfl) <| fsQ 2 rfl (fun w hS => yLdB rfl isAgg39 (hS.at _) rfl) <| fsQ 3 rfl (fun w hS => yIxa (m := 0) rfl hah0 rfl runUnderlying39 sizeOf32 (by decide) (by omega)) <| fsQ 4 rfl (fun w hS => fa32_0 rfl) <| fsQ 5 rfl (fun w hS => yLd rfl isAgg3 ((hch0.ext hS.ext).at (j := 0) rfl)) <| fsQ 6 rfl (fun w hS => fa41_3 rfl) <| fsQ 7 rfl (fun w hS => yLdB rfl isAgg30 (hS.at _) rfl) <| fsQ 8 rfl (fun w hS => yLen rfl underlying30) <| awQ ?_
  refine a_step (i := 9) (is := [12]) (by kernel_rfl) ⟨?_, ?_, trivial⟩
  ·
   refine ⟨_, rfl, ?_⟩
   refine smkmap encSp hS ?_; clear hS; intro b29 w hS
   refine nil <| kpQ <| awQ <| fsQ 10 rfl (fun w hS => yBuild zeroValue108 rfl pl108 (.cons rfl rfl (.cons rfl rfl (.cons rfl rfl (.cons rfl rfl .nil)))) rfl) <| awQ ?_
   refine a_step (i := 11) (is := [12]) (by kernel_rfl) ⟨?_, ?_, trivial⟩
   ·
    refine ⟨_, rfl, ?_⟩
    refine sbox hS rfl rfl ?_; clear hS; intro b31 w hS
    refine nil <| kpQ <| awQ <| awQ <| a1Q 12 rfl ?_
    refine salloc hS zeroValue89 rfl ?_; clear hS; intro b7 w hS
    refine nil <| kpQ <| awQ <| awQ <| a1Q 13 rfl ?_
    refine sS hS rfl sizeOf89 ?_; clear hS; intro w hS
    refine nil <| kpQ <| awQ <| a_end (by kernel_rfl) ?_
    exact ⟨_, rfl, b7, b29, b31, rfl, rfl, (by rw [show (quietK c 0 : Int) = 0 from rfl, ← hrv]; first | exact hS | exact StX.front (A := [_]) hS | exact StX.front (A := [_, _]) hS), trivial⟩
   refine ⟨_, rfl, ?_⟩
   refine salloc hS zeroValue89 rfl ?_; clear hS; intro b7 w hS
   refine nil <| kpQ <| awQ <| awQ <| a1Q 11 rfl ?_
   refine sbox hS rfl rfl ?_; clear hS; intro b31 w hS
   refine nil <| kpQ <| awQ <| awQ <| a1Q 13 rfl ?_
   refine sS hS rfl sizeOf89 ?_; clear hS; intro w hS
   refine nil <| kpQ <| awQ <| a_end (by kernel_rfl) ?_
   exact ⟨_, rfl, b7, b29, b31, rfl, rfl, (by rw [show (quietK c 0 : Int) = 0 from rfl, ← hrv]; first | exact hS | exact StX.front (A := [_]) hS | exact StX.front (A := [_, _]) hS), trivial⟩
  refine ⟨_, rfl, ?_⟩
  refine salloc hS zeroValue89 rfl ?_; clear hS; intro b7 w hS
  refine nil <| kpQ <| awQ <| awQ <| a1Q 9 rfl ?_
  refine smkmap encSp hS ?_; clear hS; intro b29 w hS
  refine nil <| kpQ <| awQ <| fsQ 10 rfl (fun w hS => yBuild zeroValue108 rfl pl108 (.cons rfl rfl (.cons rfl rfl (.cons rfl rfl (.cons rfl rfl .nil)))) rfl) <| awQ <| a1Q 11 rfl ?_
  refine sbox hS rfl rfl ?_; clear hS; intro b31 w hS
  refine nil <| kpQ <| awQ <| awQ <| a1Q 13 rfl ?_
  refine sS hS rfl sizeOf89 ?_; clear hS; intro w hS
  refine nil <| kpQ <| awQ <| a_end (by kernel_rfl) ?_
  exact ⟨_, rfl, b7, b29, b31, rfl, rfl, (by rw [show (quietK c 0 : Int) = 0 from rfl, ← hrv]; first | exact hS | exact StX.front (A := [_]) hS | exact StX.front (A := [_, _]) hS), trivial⟩
 clear hS; rintro f w ⟨b7, b29, b31, h1, h7, hS, -⟩
 refine seqX <| seqX <| regionX rfl <| sv (fa41_2 h1) <| vL rfl isAgg39 hS rfl <| sv (yLen rfl underlying39) <| vM <| nil <| cxQ <| blockX <| loopM (fun f ds w zz => ∃ (Ds : List Nat), ∃ (k : Nat), ds = Ds.map coll ∧ f 1 = ptQ b1 ∧ f 7 = ptQ b7 ∧ f 33 = .slice ah c.hist.length ch ∧ f 34 = .int .i64 (c.hist.length : Int) ∧ f 35 = .int .i64 (k : Int) ∧ StX [] w0 w (packI (marks Ds) :: blk b7 [ptQ b31] 89 :: blk b31 [.slice ar c.bas.rows.length cr, .int .i64 c.bas.leak, .int .i64 c.bas.crest, .int .i64 c.bas.over, .slice ap c.bas.pols.length cp, .slice af c.filled.length cf, .slice ah c.hist.length ch, .slice ai c.river.length ci, .int .i64 c.out, .int .i64 c.limit, .int .i64 c.delay, .int .i64 (frC c), .int .i64 (nC c : Int), .int .i64 (quietK c k : Int), .map (some b29)] 108 :: mapI b29 encSp [] :: blk b1 (ctQ c ar ap af ah ai cr cp cf ch ci) 41 :: ([] : List Bx.Item)) ∧ (k ≤ c.hist.length) ∧ zz = c.hist.length - k) _ ⟨_, _, rfl, [], 0, rfl, h1, h7, rfl, rfl, rfl, hS.mark0, (Nat.zero_le _), rfl⟩ ?_
 clear hS
 rintro f _ w _ ⟨Ds, k, rfl, h1, h7, h33, h34, h35, hS, hk, rfl⟩
 refine seqX <| regionX rfl <| sv (yLss h35 h34) <| nil <| cxQ <| seqX ?_
 refine condX rfl (fun c36 => ?_) (fun c36 => ?_)
 ·
  simp only [BS, ne_eq] at c36
  have hkl : k < c.hist.length := by omega
  obtain ⟨bx, ox, csx, hax, -, hcsx, hRx, -⟩ := sl_at hH (hsS_get hkl)
  obtain ⟨vx, rfl, hfx, hvx0⟩ := hRx
  have hvx : Sl w0 1 RInt vx (hsV c k) := hvx0
  obtain ⟨al, cl, rfl, hvcap, hvmx, -⟩ := id hvx
  have hhn : (hsV c k).length = nC c := (hok.his k hkl).2.1
  have hn6 := hok.n
  refine skipX <| cxQ ?_
  refine seqMJ (n := 64) (fun f ds w => ∃ (Ds : List Nat), ds = Ds.map coll ∧ f 1 = ptQ b1 ∧ f 7 = ptQ b7 ∧ f 33 = .slice ah c.hist.length ch ∧ f 34 = .int .i64 (c.hist.length : Int) ∧ f 35 = .int .i64 (k : Int) ∧ StX [] w0 w (packI (marks Ds) :: blk b7 [ptQ b31] 89 :: blk b31 [.slice ar c.bas.rows.length cr, .int .i64 c.bas.leak, .int .i64 c.bas.crest, .int .i64 c.bas.over, .slice ap c.bas.pols.length cp, .slice af c.filled.length cf, .slice ah c.hist.length ch, .slice ai c.river.length ci, .int .i64 c.out, .int .i64 c.limit, .int .i64 c.delay, .int .i64 (frC c), .int .i64 (nC c : Int), .int .i64 (quietK c (k + 1) : Int), .map (some b29)] 108 :: mapI b29 encSp [] :: blk b1 (ctQ c ar ap af ah ai cr cp cf ch ci) 41 :: ([] : List Bx.Item)) ∧ True) ?_ ?_
  ·
   refine blockX <| seqX <| regionX rfl <| sv (yIxQ h33 hax h35 runUnderlying39 sizeOf32) <| sv (yLdA rfl isAgg32 sizeOf32 (hcsx.ext hS.ext) rfl) ?_
   refine salloc hS zeroValue32 rfl ?_; clear hS; intro b9 w hS
   refine sS hS rfl sizeOf32 ?_; clear hS; intro w hS
   refine nil <| cxQ <| seqX <| regionX rfl <| sv (fa32_1 rfl) <| vL rfl isAgg30 hS rfl ?_
   refine scall call47 e1 c_BackI ?_
   rintro _ w ⟨p1, rfl, hM⟩; replace hS := hS.call hM; clear hM
   refine nil <| cxQ <| blockX ?_
   refine rangeM (R := [blk p1 [.slice al (hsV c k).length cl] 30]) (L0 := blk b9 [.int .i64 (hsS c k).frm, .slice al (hsV c k).length cl] 32 :: packI (marks Ds) :: blk b7 [ptQ b31] 89 :: blk b31 [.slice ar c.bas.rows.length cr, .int .i64 c.bas.leak, .int .i64 c.bas.crest, .int .i64 c.bas.over, .slice ap c.bas.pols.length cp, .slice af c.filled.length cf, .slice ah c.hist.length ch, .slice ai c.river.length ci, .int .i64 c.out, .int .i64 c.limit, .int .i64 c.delay, .int .i64 (frC c), .int .i64 (nC c : Int), .int .i64 (quietK c k : Int), .map (some b29)] 108 :: mapI b29 encSp [] :: blk b1 (ctQ c ar ap af ah ai cr cp cf ch ci) 41 :: ([] : List Bx.Item)) (ps := [42, 43]) rfl call76 hS (it_BackI hvx).itR (fun cc pre L => (cc = none ∧ L = blk b9 [.int .i64 (hsS c k).frm, .slice al (hsV c k).length cl] 32 :: packI (marks Ds) :: blk b7 [ptQ b31] 89 :: blk b31 [.slice ar c.bas.rows.length cr, .int .i64 c.bas.leak, .int .i64 c.bas.crest, .int .i64 c.bas.over, .slice ap c.bas.pols.length cp, .slice af c.filled.length cf, .slice ah c.hist.length ch, .slice ai c.river.length ci, .int .i64 c.out, .int .i64 c.limit, .int .i64 c.delay, .int .i64 (frC c), .int .i64 (nC c : Int), .int .i64 (quietK c k : Int), .map (some b29)] 108 :: mapI b29 encSp [] :: blk b1 (ctQ c ar ap af ah ai cr cp cf ch ci) 41 :: ([] : List Bx.Item) ∧ ∀ z ∈ pre, hitI c.limit z = false) ∨ (cc = some (.exit 2) ∧ L = blk b9 [.int .i64 (hsS c k).frm, .slice al (hsV c k).length cl] 32 :: packI (marks Ds) :: blk b7 [ptQ b31] 89 :: blk b31 [.slice ar c.bas.rows.length cr, .int .i64 c.bas.leak, .int .i64 c.bas.crest, .int .i64 c.bas.over, .slice ap c.bas.pols.length cp, .slice af c.filled.length cf, .slice ah c.hist.length ch, .slice ai c.river.length ci, .int .i64 c.out, .int .i64 c.limit, .int .i64 c.delay, .int .i64 (frC c), .int .i64 (nC c : Int), .int .i64 (quietK c (k + 1) : Int), .map (some b29)] 108 :: mapI b29 encSp [] :: blk b1 (ctQ c ar ap af ah ai cr cp cf ch ci) 41 :: ([] : List Bx.Item))) (.inl ⟨rfl, rfl, fun _ h => (nomatch h)⟩) (fun _ _ => rfl) (fun _ _ _ _ _ _ => trivial) ?_ ?_ ?_
   ·
    clear hS
    intro yl pre y w L M hpre hcb hS
    obtain ⟨-, rfl, hno⟩ := hcb.resolve_right (fun h => by cases h.1)
    try dsimp only [caQ, naQ] at hS
    obtain ⟨j, hj, hyj⟩ := bkI_mem (hpre.subset (List.mem_append_right _ (List.mem_singleton_self y)))
    obtain ⟨hy1, hy2⟩ : y.1 = (j : Int) ∧ y.2 = (hsV c k).getD j 0 := by rw [hyj]; exact ⟨rfl, rfl⟩
    obtain ⟨be, oe, cse, hae, -, hcse, hRe, -⟩ := sl_at hvx (getD_get (l := (hsV c k)) (i := j) hj)
    obtain ⟨rfl, hie⟩ := hRe
    refine regionX rfl <| vA <| nil ?_
    refine ⟨_, blk b9 [.int .i64 (hsS c k).frm, .slice al (hsV c k).length cl] 32 :: packI (marks Ds) :: blk b7 [ptQ b31] 89 :: blk b31 [.slice ar c.bas.rows.length cr, .int .i64 c.bas.leak, .int .i64 c.bas.crest, .int .i64 c.bas.over, .slice ap c.bas.pols.length cp, .slice af c.filled.length cf, .slice ah c.hist.length ch, .slice ai c.river.length ci, .int .i64 c.out, .int .i64 c.limit, .int .i64 c.delay, .int .i64 (frC c), .int .i64 (nC c : Int), .int .i64 (quietK c k : Int), .map (some b29)] 108 :: mapI b29 encSp [] :: blk b1 (ctQ c ar ap af ah ai cr cp cf ch ci) 41 :: ([] : List Bx.Item), rfl, hS, ?_⟩
    clear hS M; intro M w hS; try dsimp only [caQ, naQ] at hS
    refine blockX <| seqX <| region_anyX (C := (fun w => StX [] w0 w (blk b9 [.int .i64 (hsS c k).frm, .slice al (hsV c k).length cl] 32 :: packI (marks Ds) :: blk b7 [ptQ b31] 89 :: blk b31 [.slice ar c.bas.rows.length cr, .int .i64 c.bas.leak, .int .i64 c.bas.crest, .int .i64 c.bas.over, .slice ap c.bas.pols.length cp, .slice af c.filled.length cf, .slice ah c.hist.length ch, .slice ai c.river.length ci, .int .i64 c.out, .int .i64 c.limit, .int .i64 c.delay, .int .i64 (frC c), .int .i64 (nC c : Int), .int .i64 (quietK c k : Int), .map (some b29)] 108 :: mapI b29 encSp [] :: blk b1 (ctQ c ar ap af ah ai cr cp cf ch ci) 41 :: M))) mixed 0 8 (by kernel_rfl) rfl hS (fun w hS => sbQ hS) ?_
    clear hS; intro w hS
    refine hnil <| fsQ 0 rfl (fun w hS => fa32_1 rfl) <| fsQ 1 rfl (fun w hS => yLdB rfl isAgg30 (hS.at _) rfl) <| fsQ 2 rfl (fun w hS => yMove rfl) <| fsQ 3 rfl (fun w hS => yIxQ (m := y.1) rfl hae rfl runUnderlying30 sizeOf3) ?_
    refine fsQ 4 rfl (fun w hS => yLd rfl isAgg3 (show _ by rw [hy1]; exact (hcse.ext hS.ext).one)) ?_
    refine fsQ 5 rfl (fun w hS => fa41_5 h1) <| fsQ 6 rfl (fun w hS => yLdB rfl isAgg3 (hS.at _) rfl) <| fsQ 7 rfl (fun w hS => yGtr rfl rfl) <| a_end (by kernel_rfl) <| cxQ ?_
    refine condX rfl (fun c51 => ?_) (fun c51 => ?_)
    ·
     have hht : hitI c.limit y = true := by unfold hitI; rw [hy2]; exact c51
     have hqk := quiet_hit hpre hno hht
     refine seqX <| region_tailX mixed 10 (by kernel_rfl) rfl hS <| qv (fun w hS => yLdB h7 isAgg89 (hS.at _) rfl) <| qv (fun w hS => yLdB h7 isAgg89 (hS.at _) rfl) <| qv (fun w hS => yNil rfl) <| qv (fun w hS => fa108_3 rfl) <| qv (fun w hS => yLdB rfl isAgg3 (hS.at _) rfl) <| qv (fun w hS => yMove rfl) <| qv (fun w hS => yAddQ rfl rfl) <| qv (fun w hS => yMax rfl rfl) <| qv (fun w hS => yNil rfl) <| qv (fun w hS => fa108_3 rfl) ?_
     clear hS; refine qtl (fun w hS => ?_)
     refine sS hS rfl sizeOf3 ?_; clear hS; intro w hS
     refine nil <| cxQ <| exitX <| blockOut (by decide) ?_
     rw [hqk] at hS
     exact ⟨_, (.inr ⟨rfl, rfl⟩), hS⟩
    refine skipX ?_
    exact ⟨_, (.inl ⟨rfl, rfl, hit_snoc hno (by unfold hitI; rw [hy2]; exact c51)⟩), hS⟩
   ·
    clear hS
    intro D w L hcb hS
    obtain ⟨-, rfl, hno⟩ := hcb.resolve_right (fun h => by cases h.1)
    have hqk := quiet_none hno
    try dsimp only [caQ, naQ] at hS
    rw [← hqk] at hS
    exact ⟨_, _, rfl, (D :: Ds), rfl, h1, h7, h33, h34, h35, ((marks_in5 hS).sub (.cons _ lrQ)), trivial⟩
   intro D w L cc pre hcb hS
   obtain ⟨hcc, rfl⟩ := hcb.resolve_left (fun h => by cases h.1)
   obtain rfl := Option.some.inj hcc
   try dsimp only [caQ, naQ] at hS
   refine exitX ?_
   exact ⟨_, _, rfl, (D :: Ds), rfl, h1, h7, h33, h34, h35, ((marks_in5 hS).sub (.cons _ lrQ)), trivial⟩
  clear hS; rintro f _ w ⟨Ds, rfl, h1, h7, h33, h34, h35, hS, -⟩
  refine regionX rfl <| sv (yAddQ h35 rfl) <| vM <| nil ?_
  exact ⟨_, _, _, rfl, ⟨Ds, k + 1, rfl, h1, h7, h33, h34, rfl, hS, (by omega), rfl⟩, by omega⟩
 simp only [BS, ne_eq] at c36
 obtain rfl : k = c.hist.length := by omega
 refine exitX <| cxQ <| seqX <| regionX rfl <| sv (yLdB h7 isAgg89 (hS.at _) rfl) <| vA <| vA <| nil <| cxQ <| wpIn_ret ?_
 refine leafM hS (fun w hS => res2 rfl rfl rfl) (fun w hS => ?_)
 exact .inr ⟨hc0, b31, b29, rfl, run_pre (hS.sub (M := [_, _]) (.cons _ (.cons_cons _ (.cons_cons _ (List.nil_sublist _)))))⟩
end Go.Proofs.YtchbdfcbogjhcaaGreatDoor
namespace Bx
open Go Go.RowKit
section
variable {P : Program} {ρ : Operand → Value} {w : World} {ty : TypeId}
theorem yMidA {T E : TypeId} {x xi xj : Operand} {a : Option Addr} {cap i j k m : Nat} {k1 k2 : IntKind} (hx : ρ x = .slice a m cap) (hi : ρ xi = .int k1 (i : Int)) (hj : ρ xj = .int k2 (j : Int)) (hu : P.underlying T = some (.slice E)) (hs : ∀ w, (Go.sizeOf E).run P w = .ok k w) (h1 : i ≤ j) (h2 : j ≤ cap) :
    Y P ρ (.slice T x (some xi) (some xj) none) ty w (.slice (fromA a cap i k) (j - i) (cap - i)) w := by
  have b2 : (0 : Int) ≤ (j : Int) ∧ (j : Int) ≤ (cap : Int) := ⟨by omega, by omega⟩
  have b3 : (0 : Int) ≤ (i : Int) ∧ (i : Int) ≤ (j : Int) := ⟨by omega, by omega⟩
  simp only [Y, xop, execOp, Option.map_some, Option.map_none, hx, hi, hj, Instr.sliceAt, run_underlying hu, Sem.run_bind, Result.andThen_ok, Instr.slice, Instr.sliceBounds, Instr.sliceBound, asIntOf, Sem.run_pure, Sem.run_ite, b2, b3, and_self, if_true, hs, Int.toNat_natCast, fromA]
theorem yOneA {T E : TypeId} {x xi xj : Operand} {a : Option Addr} {cap i k m : Nat} {k1 k2 : IntKind} (hx : ρ x = .slice a m cap) (hi : ρ xi = .int k1 (i : Int)) (hj : ρ xj = .int k2 ((i : Int) + 1)) (hu : P.underlying T = some (.slice E)) (hs : ∀ w, (Go.sizeOf E).run P w = .ok k w) (h2 : i + 1 ≤ cap) :
    Y P ρ (.slice T x (some xi) (some xj) none) ty w (.slice (fromA a cap i k) 1 (cap - i)) w := by
  have := yMidA (j := i + 1) hx hi (hj.trans (by simp : _ = Value.int k2 ((i + 1 : Nat) : Int))) hu hs (by omega) h2 (w := w) (ty := ty)
  rwa [show i + 1 - i = 1 by omega] at this
end
theorem Sl.one {α : Type} {w : World} {k : Nat} {R : World → List Value → α → Prop} {a : Option Addr} {n cap i : Nat} {l : List α} {x : α} (h : Sl w k R (.slice a n cap) l) (hn : n = l.length) (hi : l[i]? = some x) : Sl w k R (.slice (fromA a cap i k) 1 (cap - i)) [x] := by
 have hl := (List.getElem?_eq_some_iff.1 hi).1
 have h1 := (h.drop (i := i) (by omega)).take (i := 1) (by omega)
 have : (l.drop i).take 1 = [x] := by
  rw [List.take_one, List.head?_drop, hi]; rfl
 rwa [this] at h1
theorem alone_row {w : World} {c : Clt} {ar ap af ah ai : Option Addr} {cr cp cf ch ci k : Nat}
    (h : RClt w [.slice ar c.bas.rows.length cr, .int .i64 c.bas.leak, .int .i64 c.bas.crest, .int .i64 c.bas.over, .slice ap c.bas.pols.length cp, .slice af c.filled.length cf, .slice ah c.hist.length ch, .slice ai c.river.length ci, .int .i64 c.out, .int .i64 c.limit, .int .i64 c.delay] c) (hk : k < c.hist.length) :
    RClt w [.slice ar c.bas.rows.length cr, .int .i64 c.bas.leak, .int .i64 c.bas.crest, .int .i64 c.bas.over, .slice ap c.bas.pols.length cp, .slice af c.filled.length cf, .slice (fromA ah ch k 2) 1 (ch - k), .slice ai c.river.length ci, .int .i64 c.out, .int .i64 c.limit, .int .i64 c.delay] (aloneC c k) := by
  obtain ⟨_, _, _, _, _, e, h1, h2, h3, h4, h5, h6⟩ := h
  cases e
  exact ⟨_, _, _, _, _, rfl, h1, h2, h3, h4.one rfl (by show c.hist[k]? = some (hsS c (k : Int).toNat); rw [Int.toNat_natCast]; exact hsS_get hk), h5, h6⟩
section
variable {c : Clt}
theorem high_in {k : Nat} (h : 0 ≤ fhC c k) : highK c (k + 1) = highK c k ++ [(k : Int)] := by
 unfold highK; rw [List.range_succ, List.filter_append, List.map_append, List.filter_cons_of_pos (by rw [decide_eq_true h]), List.filter_nil]; rfl
theorem high_out {k : Nat} (h : ¬ 0 ≤ fhC c k) : highK c (k + 1) = highK c k := by
 unfold highK; rw [List.range_succ, List.filter_append, List.map_append, List.filter_cons_of_neg (by rw [decide_eq_false h]; decide), List.filter_nil]; simp
theorem first_in {k : Nat} (h : 0 ≤ fhC c k) : firstK c (k + 1) = min (firstK c k) (fhC c k) := by
 unfold firstK; rw [List.range_succ, List.foldl_append, List.foldl_cons, List.foldl_nil, if_pos h]
theorem first_out {k : Nat} (h : ¬ 0 ≤ fhC c k) : firstK c (k + 1) = firstK c k := by
 unfold firstK; rw [List.range_succ, List.foldl_append, List.foldl_cons, List.foldl_nil, if_neg h]
theorem highK_len : ∀ k, (highK c k).length ≤ k
  | 0 => Nat.le_refl _
  | k + 1 => by
    by_cases h : 0 ≤ fhC c k
    · rw [high_in h, List.length_append]; have := highK_len k; simp; omega
    · rw [high_out h]; have := highK_len k; omega
theorem first_bd : ∀ k, (∀ j, j < k → -1 ≤ fhC c j) → 0 ≤ firstK c k ∧ firstK c k ≤ nC c
  | 0, _ => ⟨by show (0 : Int) ≤ (nC c : Int); omega, by show (nC c : Int) ≤ (nC c : Int); omega⟩
  | k + 1, h => by
    have := first_bd k fun j hj => h j (by omega)
    by_cases hf : 0 ≤ fhC c k
    · rw [first_in hf]; omega
    · rw [first_out hf]; exact this
theorem firstHi_bd {lim : Int} : ∀ (l : List Int) (i : Nat), -1 ≤ firstHi lim l i ∧ firstHi lim l i < i + l.length + 1
  | [], i => by unfold firstHi; simp; omega
  | v :: l, i => by
    unfold firstHi
    split
    · simp; omega
    · have := firstHi_bd (lim := lim) l (i + 1)
      rw [List.length_cons]; omega
theorem fh_ge (k : Nat) : -1 ≤ fhC c k := (firstHi_bd _ _).1
theorem fh_wh (k : Nat) : whF (fun _ v => decide (c.limit < v)) (hsV c k) (hsV c k).length 0 = fhC c k := wh_first (lim := c.limit) (hsV c k) [] 0 rfl
theorem plan_okR (h : ClOk c) {i : Int} (h0 : 0 ≤ i) (h1 : i ≤ lastC c) (hq : (quietC c : Int) ≤ nC c) : PlnOk c (planC c i) := by
 have hd := h.del
 have hn := h.n
 have hf := h.frm
 unfold lastC at h1
 refine .inr ⟨⟨?_, ?_⟩, ?_, ?_⟩
 ·
  show frC c ≤ frC c + i; omega
 ·
  show frC c + i ≤ frC c + lastC c; unfold lastC; omega
 ·
  show 0 ≤ frC c + max (quietC c : Int) (i + c.delay + 1); omega
 ·
  show frC c + max (quietC c : Int) (i + c.delay + 1) ≤ 1000000; omega
theorem wit_no {i : Int} (h : ∀ k, k < c.hist.length → failC c k (planC c i) < 0) : witC c i = false := by
 unfold witC
 rw [List.any_eq_false]
 intro k hk
 have := h k (List.mem_range.1 hk)
 simp; omega
theorem wit_yes {i : Int} {k : Nat} (hk : k < c.hist.length) (h : 0 ≤ failC c k (planC c i)) : witC c i = true := List.any_eq_true.2 ⟨k, List.mem_range.2 hk, decide_eq_true h⟩
theorem wit_all {i : Int} (h : witC c i = false) : ∀ k, k < c.hist.length → failC c k (planC c i) < 0 := fun k hk => by
 have := List.any_eq_false.1 h k (List.mem_range.2 hk)
 have h2 : ¬ 0 ≤ failC c k (planC c i) := fun e => this (decide_eq_true e)
 omega
theorem fail_bd {k : Nat} {p : Pln} : ∀ (m i : Nat), -1 ≤ failK c k p m i ∧ failK c k p m i < i + m + 1
  | 0, i => by unfold failK; omega
  | m + 1, i => by
    unfold failK
    split
    · omega
    · have := fail_bd (k := k) (p := p) m (i + 1); omega
def HoldK (c : Clt) (k : Nat) (p : Pln) : Prop := p = neverP ∨ failC c k p < 0
theorem fail_none {k : Nat} {p : Pln} : ∀ (m i : Nat), failK c k p m i < 0 → ∀ j, i ≤ j → j < i + m → aboveC c k p j = false
  | 0, i, _, j, h1, h2 => by omega
  | m + 1, i, h, j, h1, h2 => by
    unfold failK at h
    split at h
    next e => omega
    next e =>
      by_cases hj : j = i
      · subst hj; simpa using e
      · exact fail_none m (i + 1) h j (by omega) (by omega)
theorem hold_in (hok : ClOk c) {k i : Nat} {p : Pln} (h : HoldK c k p) (hi : i < nC c) : ∃ s, inC c k p i = some s := by
 rcases h with rfl | h
 ·
  exact ⟨_, in_open (opn_a rfl)⟩
 ·
  have := fail_none _ _ h i (Nat.zero_le _) (by have := hok.riv.1; omega)
  unfold aboveC at this
  cases hh : inC c k p i with
  | none => rw [hh] at this; cases this
  | some s => exact ⟨s, rfl⟩
theorem hold_vol (hok : ClOk c) {k i : Nat} {p : Pln} (hp : PlnOk c p) (h : HoldK c k p) (hi : i < nC c) (ho : opnC c p i = false) : ∃ sh : Nat, p.close - frC c + c.delay = (sh : Int) ∧ sh < i ∧ i - sh < (volsC c k sh).length ∧ p ≠ neverP ∧ sh < nC c := by
 have hnv : p ≠ neverP := fun e => by rw [opn_a e] at ho; cases ho
 have hpc := hp.resolve_left hnv
 unfold lastC at hpc
 have hd := hok.del
 have hs : ¬ (i : Int) ≤ p.close - frC c + c.delay := fun e => by rw [opn_b e] at ho; cases ho
 obtain ⟨sh, hsh⟩ := Int.eq_ofNat_of_zero_le (show 0 ≤ p.close - frC c + c.delay by omega)
 refine ⟨sh, hsh, by omega, ?_, hnv, by omega⟩
 obtain ⟨s, hin⟩ := hold_in hok h hi
 apply Decidable.byContradiction
 intro hc
 rw [in_no ho hsh (by omega)] at hin
 cases hin
end
theorem dn_hit {k : Nat} {i : Int} (hik : i = (k : Int) - 1 ∨ (k = 0 ∧ i < 0 ∧ -100 ≤ i)) (h : 0 ≤ i) : ∃ j : Nat, k = j + 1 ∧ i = (j : Int) := ⟨k - 1, by omega, by omega⟩
theorem dn_pre {k : Nat} {i : Int} {P X : List Int} (hik : i = (k : Int) - 1 ∨ (k = 0 ∧ i < 0 ∧ -100 ≤ i)) (hP : P ++ dnI k = X) (h : 0 ≤ i) : (P ++ [i]) <+: X := by
 obtain ⟨j, rfl, rfl⟩ := dn_hit hik h
 rw [dnI] at hP
 exact ⟨dnI j, by rw [List.append_assoc]; exact hP⟩
theorem dn_end {k : Nat} {i : Int} {P X : List Int} (hik : i = (k : Int) - 1 ∨ (k = 0 ∧ i < 0 ∧ -100 ≤ i)) (hP : P ++ dnI k = X) (h : ¬ 0 ≤ i) : P = X := by
 obtain rfl : k = 0 := by omega
 rwa [show dnI 0 = [] from rfl, List.append_nil] at hP
theorem dn_next {j : Nat} {P X : List Int} (hP : P ++ dnI (j + 1) = X) : (P ++ [(j : Int)]) ++ dnI j = X := by
 rw [dnI] at hP
 rw [List.append_assoc]; exact hP
theorem opn_aI {c : Clt} {p : Pln} {i : Int} (h : p = neverP) : opnC c p i = true := by unfold opnC; rw [decide_eq_true h]; rfl
theorem opn_bI {c : Clt} {p : Pln} {i : Int} (h : i ≤ p.close - frC c + c.delay) : opnC c p i = true := by unfold opnC; rw [decide_eq_true h]; simp
theorem opn_cI {c : Clt} {p : Pln} {i : Int} (h : p ≠ neverP) (h2 : ¬ i ≤ p.close - frC c + c.delay) : opnC c p i = decide (p.opn - frC c ≤ i) := by unfold opnC; rw [decide_eq_false h, decide_eq_false h2]; simp
theorem shut2 {a b d : Bool} (h : (a && !b && !d) = true) : b = false ∧ d = false := by cases a <;> cases b <;> cases d <;> simp at h ⊢
end Bx
namespace Go.Proofs.YtchbdfcbogjhcaaGreatDoor
open Go Bx Go.Proofs.Tryz
theorem c_alone5 {c : Clt} {ar ap af ah ai : Option Addr} {cr cp cf ch ci : Nat} {k : Int} {w0 : World} (hT : RClt w0 (ctQ c ar ap af ah ai cr cp cf ch ci) c) : CE Tryz.prog 40 #[.agg (ctQ c ar ap af ah ai cr cp cf ch ci).toArray, .int .i64 k] w0 (fun u w' => ((if chkE c ≠ 0 then chkE c else if outB k 0 (c.hist.length - 1) = true then 4 else chkE (aloneC c k)) ≠ 0 ∧ u = .tuple #[.pointer none, .int .i64 (if chkE c ≠ 0 then chkE c else if outB k 0 (c.hist.length - 1) = true then 4 else chkE (aloneC c k))] ∧ Ext w0 w') ∨ ((if chkE c ≠ 0 then chkE c else if outB k 0 (c.hist.length - 1) = true then 4 else chkE (aloneC c k)) = 0 ∧ ∃ ah2 ch2 g m, u = .tuple #[ptQ g, .int .i64 0] ∧ (ah2 = fromA ah ch k.toNat 2 ∧ ch2 = ch - k.toNat ∧ 0 ≤ k ∧ k.toNat < c.hist.length) ∧ St w0 w' [blk g [.slice ar c.bas.rows.length cr, .int .i64 c.bas.leak, .int .i64 c.bas.crest, .int .i64 c.bas.over, .slice ap c.bas.pols.length cp, .slice af c.filled.length cf, .slice ah2 1 ch2, .slice ai c.river.length ci, .int .i64 c.out, .int .i64 c.limit, .int .i64 c.delay, .int .i64 (frC (aloneC c k)), .int .i64 (nC (aloneC c k) : Int), .int .i64 (quietC (aloneC c k) : Int), .map (some m)] 108, mapI m encSp [], packI (vsI (aloneC c k) [])])) := by
 refine enQ func40 rfl ntmps40 rfl fun hS => ?_
 refine seq <| region ?_
 refine sbox hS rfl rfl ?_; clear hS; intro b2 w hS
 refine vA <| vA <| nil <| cwQ <| seq <| region <| sv (yLdBA rfl isAgg41 sizeOf41 (hS.at _) rfl rfl) ?_
 refine scall call24 e1 (c_begin5 (hT.ext hS.ext)) ?_
 rintro _ w (⟨he, rfl, hE⟩ | ⟨he, g, m, rfl, hM⟩)
 ·
  replace hS := hS.step hE; clear hE
  have hae : (if chkE c ≠ 0 then chkE c else if outB k 0 (c.hist.length - 1) = true then 4 else chkE (aloneC c k)) = chkE c := if_pos he
  refine vM <| sv (yExt rfl rfl) <| sv (yExt rfl rfl) <| vA <| vA <| nil <| cwQ <| seq <| block <| seq <| region <| vM <| sv (yNeq rfl rfl) ?_
  refine vA <| nil <| cwQ ?_
  refine cond rfl ?_ ?_ <;> intro c13 <;> simp only [BS, ne_eq] at c13
  ·
   refine seq <| region <| vM <| vA <| vA <| nil <| cwQ ?_
   refine wp_ret (blockR (thenR ?_))
   refine retQ (res2 rfl rfl rfl) ?_
   exact .inl ⟨by rw [hae]; exact he, by rw [hae]; rfl, hS.ext⟩
  exact absurd c13 he
 replace hS : StX [] w0 w [blk g (gcQ c ar ap af ah ai cr cp cf ch ci m) 108, mapI m encSp [], packI (vsI c []), blk b2 (ctQ c ar ap af ah ai cr cp cf ch ci) 41] := hS.call hM; clear hM
 have hok := cl_ok he
 have hd := hok.del
 have hn := hok.n
 have hf := hok.frm
 have hr := hok.riv.1
 obtain ⟨hB, hFl, hFr, hH, hR⟩ := clt_parts hT
 have hnh := hok.nh
 refine vM <| sv (yExt rfl rfl) <| sv (yExt rfl rfl) <| vA <| vA <| nil <| cwQ <| seq <| block <| seq <| region <| vM <| sv (yNeq rfl rfl) ?_
 refine vA <| nil <| cwQ ?_
 refine cond rfl (fun c13 => ?_) (fun c13 => ?_)
 ·
  exact absurd c13 (by decide)
 refine seq <| region <| vM <| sv (fa41_2 rfl) <| vL rfl isAgg39 hS rfl <| sv (yLen rfl underlying39) <| sv (ySubQ rfl rfl) ?_
 refine scV hS call29 e3 c_lout ?_; clear hS; intro w hS
 refine vA <| nil <| cwQ ?_
 refine cond rfl (fun c17 => ?_) (fun c17 => ?_)
 ·
  refine seq <| region <| vA <| vA <| nil <| cwQ ?_
  refine wp_ret (blockR (thenR ?_))
  refine retQ (res2 rfl rfl rfl) ?_
  have hae : (if chkE c ≠ 0 then chkE c else if outB k 0 (c.hist.length - 1) = true then 4 else chkE (aloneC c k)) = 4 := by rw [if_neg (fun h => h he), if_pos c17]
  rw [hae]
  exact .inl ⟨by decide, rfl, hS.ext⟩
 have hkb := outB_false.1 c17
 obtain ⟨q, rfl⟩ := Int.eq_ofNat_of_zero_le hkb.1
 have hfit := hH.fit
 have hT2 := alone_row hT (k := q) (by omega)
 have hae : (if chkE c ≠ 0 then chkE c else if outB (q : Int) 0 (c.hist.length - 1) = true then 4 else chkE (aloneC c q)) = chkE (aloneC c q) := by rw [if_neg (fun h => h he), if_neg (by rw [c17]; decide)]
 refine skip <| cwQ <| seq <| region <| sv (fa41_2 rfl) <| vL rfl isAgg39 hS rfl <| vM <| vM <| sv (yAddQ rfl rfl) <| sv (yOneA (i := q) rfl rfl rfl underlying39 sizeOf32 (by omega)) <| sv (fa41_2 rfl) ?_
 refine sS hS rfl sizeOf39 ?_; clear hS; intro w hS
 refine nil <| cwQ <| seq <| region <| sv (yLdBA rfl isAgg41 sizeOf41 (hS.at _) rfl rfl) ?_
 refine scall call24 e1 (c_begin5 (c := aloneC c q) (hT2.ext hS.ext)) ?_
 rintro _ w (⟨he2, rfl, hE⟩ | ⟨he2, g, m, rfl, hM⟩)
 ·
  replace hS := hS.step hE; clear hE
  refine sv (yExt rfl rfl) <| sv (yExt rfl rfl) <| vA <| vA <| nil <| cwQ <| wp_ret <| retQ (res2 rfl rfl rfl) ?_
  exact .inl ⟨by rw [hae]; exact he2, by rw [hae]; rfl, hS.ext⟩
 replace hS := hS.call hM; clear hM
 refine sv (yExt rfl rfl) <| sv (yExt rfl rfl) <| vA <| vA <| nil <| cwQ <| wp_ret <| retQ (res2 rfl rfl rfl) ?_
 exact .inr ⟨hae.trans he2, _, _, _, _, rfl, ⟨by rw [Int.toNat_natCast], by rw [Int.toNat_natCast], by omega, by omega⟩, hS.sub (.cons_cons _ (.cons_cons _ (.cons_cons _ (List.nil_sublist _))))⟩
theorem c_with5 {c : Clt} {ar ap af ah ai : Option Addr} {cr cp cf ch ci : Nat} {r : Int × Int} {w0 : World} (hT : RClt w0 (ctQ c ar ap af ah ai cr cp cf ch ci) c) : CE Tryz.prog 15 #[.agg (ctQ c ar ap af ah ai cr cp cf ch ci).toArray, .agg [.int .i64 r.1, .int .i64 r.2].toArray] w0 (fun u w' => (withE c r ≠ 0 ∧ u = .tuple #[.pointer none, .int .i64 (withE c r)] ∧ Ext w0 w') ∨ (withE c r = 0 ∧ ∃ rr g m, u = .tuple #[ptQ rr, .int .i64 0] ∧ St w0 w' [blk rr [ptQ g, .int .i64 r.1, .int .i64 r.2] 91, blk g (gcQ c ar ap af ah ai cr cp cf ch ci m) 108, mapI m encSp [], packI (vsI c [])])) := by
 refine enQ func15 rfl ntmps15 rfl fun hS => ?_
 refine seq <| region ?_
 refine sbox hS rfl rfl fun b2 w hS => ?_
 refine sbox hS rfl rfl fun b3 w hS => ?_
 refine vA <| vA <| nil <| cwQ <| seq <| region <| sv (yLdBA rfl isAgg41 sizeOf41 (hS.at _) rfl rfl) ?_
 refine scall call24 e1 (c_begin5 (hT.ext hS.ext)) ?_
 rintro _ w (⟨he, rfl, hE⟩ | ⟨he, g, m, rfl, hM⟩)
 ·
  replace hS := hS.step hE; clear hE
  have hae : withE c r = chkE c := if_pos he
  refine vM <| sv (yExt rfl rfl) <| sv (yExt rfl rfl) <| vA <| vA <| nil <| cwQ <| seq <| block <| seq <| region <| vM <| sv (yNeq rfl rfl) ?_
  refine vA <| nil <| cwQ ?_
  refine cond rfl ?_ ?_ <;> intro c13 <;> simp only [BS, ne_eq] at c13
  ·
   refine seq <| region <| vM <| vA <| vA <| nil <| cwQ ?_
   refine wp_ret (blockR (thenR ?_))
   refine retQ (res2 rfl rfl rfl) ?_
   exact .inl ⟨by rw [hae]; exact he, by rw [hae]; rfl, hS.ext⟩
  exact absurd c13 he
 replace hS : StX [] w0 w [blk g (gcQ c ar ap af ah ai cr cp cf ch ci m) 108, mapI m encSp [], packI (vsI c []), blk b3 [.int .i64 r.1, .int .i64 r.2] 43, blk b2 (ctQ c ar ap af ah ai cr cp cf ch ci) 41] := hS.call hM; clear hM
 refine vM <| sv (yExt rfl rfl) <| sv (yExt rfl rfl) <| vA <| vA <| nil <| cwQ <| seq <| block <| seq <| region <| vM <| sv (yNeq rfl rfl) ?_
 refine vA <| nil <| cwQ ?_
 refine cond rfl (fun c13 => ?_) (fun c13 => ?_)
 ·
  exact absurd c13 (by decide)
 refine seq <| region <| sv (fa43_0 rfl) <| vL rfl isAgg3 hS rfl ?_
 refine scV hS call29 e3 c_lout fun w hS => ?_
 refine vM ?_
 refine sg rfl rfl rfl (fun g => (fa43_1 rfl)) (fun v22 g22 => ?_)
 refine sg rfl rfl rfl (fun g => (yLdB (g22.1 g) isAgg3 (hS.at _) rfl)) (fun v23 g23 => ?_)
 refine sgc hS rfl rfl rfl call29 (fun g => (.cons (g23.1 g) e2)) (fun g => c_lout) ?_; clear hS; intro v24 w hS g24
 refine sv (yOr rfl rfl (fun hB => (g24.1 hB))) <| vA <| nil <| cwQ ?_
 refine cond rfl (fun c17 => ?_) (fun c17 => ?_)
 ·
  refine seq <| region <| vA <| vA <| nil <| cwQ ?_
  refine wp_ret (blockR (thenR ?_))
  refine retQ (res2 rfl rfl rfl) ?_
  have hae : withE c r = 7 := by unfold withE; rw [if_neg (fun h => h he), if_pos c17]
  rw [hae]
  exact .inl ⟨by decide, rfl, hS.ext⟩
 refine skip <| cwQ <| seq <| region <| vM <| sv (yLdBA rfl isAgg43 sizeOf43 (hS.at _) rfl rfl) <| sv (yBuild zeroValue91 rfl pl91 (.cons rfl rfl (.cons rfl rfl .nil)) rfl) ?_
 refine sbox hS rfl rfl fun b29 w hS => ?_
 refine vA <| vA <| nil <| cwQ <| wp_ret <| retQ (res2 rfl rfl rfl) ?_
 have hae : withE c r = 0 := by unfold withE; rw [if_neg (fun h => h he), if_neg (by rw [c17]; decide)]
 exact .inr ⟨hae, _, _, _, rfl, hS.sub (.cons_cons _ (.cons_cons _ (.cons_cons _ (.cons_cons _ (List.nil_sublist _)))))⟩
theorem c_highs1 {c : Clt} {ar ap af ah ai : Option Addr} {cr cp cf ch ci : Nat} {g m rr : Nat} {r : Int × Int} {i x : Int} {b1 : Nat} {w0 : World} (hb : w0.heap[b1]? = some (.cells ([ptQ rr] : List Value).toArray 79 (0, 0))) (hg : w0.heap[g]? = some (.cells ((gcQ c ar ap af ah ai cr cp cf ch ci m) : List Value).toArray 108 (0, 0))) (hr0 : w0.heap[rr]? = some (.cells ([ptQ g, .int .i64 r.1, .int .i64 r.2] : List Value).toArray 91 (0, 0))) : CV Tryz.prog 70 #[.int .i64 i, .int .i64 x, ptQ b1] w0 (.bool (decide (c.limit < x))) := by
 refine enQ func70 rfl ntmps70 rfl fun hS => ?_
 refine seq <| region <| vA <| nil <| cwQ <| seq <| region <| vM <| sv (yLdB rfl isAgg79 (hS.ext.get hb) rfl) <| sv (yNil rfl) <| sv (fa91_0 rfl) <| sv (yLdB rfl isAgg89 (hS.ext.get hr0) rfl) <| sv (yNil rfl) ?_
 refine sv (fa108_0 rfl) <| sv (fa41_5 rfl) <| sv (yLdB rfl isAgg3 (hS.ext.get hg) rfl) <| sv (yGtr rfl rfl) <| vA <| nil <| cwQ <| wp_ret ?_
 exact rvQ hS
theorem c_highs {c : Clt} {ar ap af ah ai : Option Addr} {cr cp cf ch ci : Nat} {g m rr : Nat} {r : Int × Int} {w0 : World} (hg : w0.heap[g]? = some (.cells ((gcQ c ar ap af ah ai cr cp cf ch ci m) : List Value).toArray 108 (0, 0))) (hr0 : w0.heap[rr]? = some (.cells ([ptQ g, .int .i64 r.1, .int .i64 r.2] : List Value).toArray 91 (0, 0))) (hok : ClOk c) (hT : RClt w0 (ctQ c ar ap af ah ai cr cp cf ch ci) c) (hI1 : I64 r.1) (hI2 : Bd r.2 0 60) : CE Tryz.prog 42 #[ptQ rr] w0 (fun u w' => ∃ a cap, u = .tuple #[.slice a (highK c c.hist.length).length cap, .int .i64 (firstK c c.hist.length)] ∧ Ext w0 w') := by
 have hd := hok.del
 have hn := hok.n
 have hf := hok.frm
 have hr := hok.riv.1
 obtain ⟨hB, hFl, hFr, hH, hR⟩ := clt_parts hT
 have hnh := hok.nh
 refine enQ func42 rfl ntmps42 rfl fun hS => ?_
 refine seq <| region ?_
 refine sbox hS rfl rfl fun b1 w hS => ?_
 refine vA <| vA <| nil <| cwQ <| seq <| region <| vL rfl isAgg79 hS rfl <| sv (yNil rfl) <| sv (fa91_0 rfl) <| sv (yLdB rfl isAgg89 (hS.ext.get hr0) rfl) <| sv (yNil rfl) <| sv (fa108_2 rfl) <| sv (yLdB rfl isAgg3 (hS.ext.get hg) rfl) ?_
 refine vA <| nil <| cwQ <| seq <| seq <| region <| vL rfl isAgg79 hS rfl <| sv (yNil rfl) <| sv (fa91_0 rfl) <| sv (yLdB rfl isAgg89 (hS.ext.get hr0) rfl) <| sv (yNil rfl) <| sv (fa108_0 rfl) <| sv (fa41_2 rfl) ?_
 refine sv (yLdB rfl isAgg39 (hS.ext.get hg) rfl) <| sv (yLen rfl underlying39) <| vM <| nil <| cwQ <| block <| loop (fun f w zz => ∃ (k : Nat) (v : Value), f 1 = ptQ b1 ∧ f 2 = v ∧ f 21 = .slice ah c.hist.length ch ∧ f 22 = .int .i64 (c.hist.length : Int) ∧ f 23 = .int .i64 (k : Int) ∧ f 3 = .int .i64 (firstK c k) ∧ StX [] w0 w [rowI v 3 1 (highK c k).length ((highK c k).flatMap Bx.encI), blk b1 [ptQ rr] 79] ∧ (k ≤ c.hist.length) ∧ zz = c.hist.length - k) _ ⟨_, rfl, 0, _, rfl, rfl, rfl, rfl, rfl, rfl, (hS.nilrow 3 1), (Nat.zero_le _), rfl⟩ ?_
 clear hS
 rintro f w _ ⟨k, v, h1, h2, h21, h22, h23, h3, hS, hk, rfl⟩
 refine seq <| region <| sv (yLss h23 h22) <| nil <| cwQ <| seq ?_
 refine cond rfl ?_ ?_ <;> intro c24 <;> simp only [BS, ne_eq] at c24
 ·
  have hkl : k < c.hist.length := by omega
  have hfb := first_bd (c := c) k (fun j _ => fh_ge j)
  have hlk := highK_len (c := c) k
  obtain ⟨bx, ox, csx, hax, -, hcsx, hRx, -⟩ := sl_at hH (hsS_get hkl)
  obtain ⟨vx, rfl, hfx, hvx0⟩ := hRx
  have hvx : Sl w0 1 RInt vx (hsV c k) := hvx0
  obtain ⟨al, cl, rfl, hvcap, hvmx, -⟩ := id hvx
  have hhn : (hsV c k).length = nC c := (hok.his k hkl).2.1
  have hfh := firstHi_bd (lim := c.limit) (hsV c k) 0
  refine skip <| cwQ ?_
  refine seqJ (n := 44) (fun f w => ∃ (v : Value), f 1 = ptQ b1 ∧ f 2 = v ∧ f 21 = .slice ah c.hist.length ch ∧ f 22 = .int .i64 (c.hist.length : Int) ∧ f 23 = .int .i64 (k : Int) ∧ f 3 = .int .i64 (firstK c (k + 1)) ∧ StX [] w0 w [rowI v 3 1 (highK c (k + 1)).length ((highK c (k + 1)).flatMap Bx.encI), blk b1 [ptQ rr] 79] ∧ True) ?_ ?_
  ·
   refine block <| seq <| region <| sv (yMove h23) <| sv (yIxQ h21 hax h23 runUnderlying39 sizeOf32) <| sv (yLdA rfl isAgg32 sizeOf32 (hcsx.ext hS.ext) rfl) ?_
   refine salloc hS zeroValue32 rfl fun b5 w hS => ?_
   refine vA ?_
   refine sS hS rfl sizeOf32 fun w hS => ?_
   refine nil <| cwQ <| seq <| region <| sv (fa32_1 rfl) <| vL rfl isAgg30 hS rfl <| sv (yFn (.cons h1 .nil)) ?_
   refine scV hS call48 e2 (c_whereQ (p := fun _ v => decide (c.limit < v)) (hvx.ext RInt.stays hS.ext) call70 (fun i w _ e => c_highs1 (e.get (hS.at b1)) (e.get (hS.ext.get hg)) (e.get (hS.ext.get hr0)))) fun w hS => ?_
   rw [fh_wh]
   refine vA <| nil <| cwQ <| seq <| region <| vM <| sv (yGeq rfl rfl) <| nil <| cwQ ?_
   refine cond rfl ?_ ?_ <;> intro c33 <;> simp only [BS, ne_eq] at c33
   ·
    have hh1 := high_in c33
    have hh2 := first_in c33
    refine region <| sv (yMove h2) <| vM ?_
    refine sbslice hS underlying30 sizeOf3 rfl zeroValue3 rfl (.cons rfl rfl .nil) rfl fun b36 w hS => ?_
    refine sapp (bytes := 8) (size := 1) (v := v) (m := 1) hS rfl rfl underlying30 ti3 rfl rfl rfl rfl (by decide) (blk_cells (hS.at _)) rfl rfl (by omega) (by omega) ?_; clear hS; intro v37 w hS
    refine sv (yMove h3) <| vM <| sv (yMin rfl rfl) <| vA <| vA <| nil ?_
    exact ⟨_, rfl, _, h1, rfl, h21, h22, h23, (by rw [hh2]; exact rfl), (by rw [hh1, List.length_append, List.flatMap_append]; exact hS.sub (.cons _ (.cons _ lrQ))), trivial⟩
   have hh1 := high_out c33
   have hh2 := first_out c33
   refine skip ?_
   exact ⟨_, rfl, _, h1, h2, h21, h22, h23, (by rw [hh2]; exact h3), (by rw [hh1]; exact hS.sub (.cons _ lrQ)), trivial⟩
  clear hS; rintro f w ⟨v, h1, h2, h21, h22, h23, h3, hS, -⟩
  refine region <| sv (yAddQ h23 rfl) <| vM <| nil ?_
  exact ⟨_, _, rfl, ⟨k + 1, _, h1, h2, h21, h22, rfl, h3, hS, (by omega), rfl⟩, by omega⟩
 obtain rfl : k = c.hist.length := by omega
 refine exit <| cwQ <| seq <| region <| sv (yMove h2) <| sv (yMove h3) <| vA <| vA <| nil <| cwQ <| wp_ret <| retQ (res2 rfl rfl rfl) ?_
 obtain ⟨a, cap, rfl⟩ := row_shape (hS.row v)
 exact ⟨a, cap, rfl, hS.ext⟩
theorem c_allowed {c : Clt} {ar ap af ah ai : Option Addr} {cr cp cf ch ci : Nat} {g m rr : Nat} {r : Int × Int} {w0 : World} (hg : w0.heap[g]? = some (.cells ((gcQ c ar ap af ah ai cr cp cf ch ci m) : List Value).toArray 108 (0, 0))) (hr0 : w0.heap[rr]? = some (.cells ([ptQ g, .int .i64 r.1, .int .i64 r.2] : List Value).toArray 91 (0, 0))) (hok : ClOk c) (hT : RClt w0 (ctQ c ar ap af ah ai cr cp cf ch ci) c) (hI1 : I64 r.1) (hI2 : Bd r.2 0 60) : CV Tryz.prog 16 #[ptQ rr] w0 (.tuple #[.bool (calledC c r), .int .i64 (fromC c r)]) := by
 have hn := hok.n
 have hfb := first_bd (c := c) c.hist.length (fun j _ => fh_ge j)
 refine enQ func16 rfl ntmps16 rfl fun hS => ?_
 refine seq <| region <| vA <| vA <| nil <| cwQ <| seq <| region <| vM ?_
 refine scall call42 e1 (c_highs (hS.ext.get hg) (hS.ext.get hr0) hok (hT.ext hS.ext) hI1 hI2) ?_
 rintro _ w ⟨al, cl, rfl, hE⟩; replace hS := hS.step hE; clear hE
 refine vM <| sv (yExt rfl rfl) <| sv (yExt rfl rfl) <| vA <| vA <| nil <| cwQ <| seq <| region_draw mixed (by kernel_rfl) hS <| qv (fun w hS => yMove rfl) <| qv (fun w hS => yLen rfl underlying30) <| qv (fun w hS => yMove rfl) <| qv (fun w hS => yNil rfl) ?_
 refine qv (fun w hS => fa91_1 rfl) <| qv (fun w hS => fa43_0 rfl) <| qv (fun w hS => yLdB rfl isAgg3 (hS.ext.get hr0) rfl) <| qv (fun w hS => yGeq rfl rfl) <| qv (fun w hS => yMove rfl) <| qv (fun w hS => yMove rfl) <| qv (fun w hS => yNil rfl) <| qv (fun w hS => fa91_1 rfl) <| qv (fun w hS => fa43_1 rfl) <| qv (fun w hS => yLdB rfl isAgg3 (hS.ext.get hr0) rfl) <| qv (fun w hS => ySubQ rfl rfl) <| qv (fun w hS => yMax rfl rfl) <| qv (fun w hS => yAsg rfl) ?_
 refine qv (fun w hS => yAsg rfl) ?_
 clear hS; refine qnil (fun w hS => ?_)
 refine cwQ <| wp_ret ?_
 exact retV (res2 rfl rfl rfl) hS.ext
theorem c_may {c : Clt} {ar ap af ah ai : Option Addr} {cr cp cf ch ci : Nat} {g m rr : Nat} {r : Int × Int} {i : Int} {w0 : World} (hg : w0.heap[g]? = some (.cells ((gcQ c ar ap af ah ai cr cp cf ch ci m) : List Value).toArray 108 (0, 0))) (hr0 : w0.heap[rr]? = some (.cells ([ptQ g, .int .i64 r.1, .int .i64 r.2] : List Value).toArray 91 (0, 0))) (hok : ClOk c) (hT : RClt w0 (ctQ c ar ap af ah ai cr cp cf ch ci) c) (hI1 : I64 r.1) (hI2 : Bd r.2 0 60) : CV Tryz.prog 21 #[ptQ rr, .int .i64 i] w0 (.bool (mayC c r i)) := by
 have hn := hok.n
 refine enQ func21 rfl ntmps21 rfl fun hS => ?_
 refine seq <| region <| vA <| nil <| cwQ <| seq <| region <| vM ?_
 refine scV hS call16 e1 (c_allowed (hS.ext.get hg) (hS.ext.get hr0) hok (hT.ext hS.ext) hI1 hI2) fun w hS => ?_
 refine vM <| sv (yExt rfl rfl) <| sv (yExt rfl rfl) <| vA <| vA <| nil <| cwQ <| seq <| region <| vM <| vM ?_
 refine sg rfl rfl rfl (fun g => (yMove rfl)) (fun v14 g14 => ?_)
 refine sg rfl rfl rfl (fun g => (yMove rfl)) (fun v15 g15 => ?_)
 refine sg rfl rfl rfl (fun g => (yMove rfl)) (fun v16 g16 => ?_)
 refine sg rfl rfl rfl (fun g => (yNil (g16.1 g))) (fun v17 g17 => ?_)
 refine sg rfl rfl rfl (fun g => (fa91_0 (g17.1 g))) (fun v18 g18 => ?_)
 refine sg rfl rfl rfl (fun g => (yLdB (g18.1 g) isAgg89 (hS.ext.get hr0) rfl)) (fun v19 g19 => ?_)
 refine sgc hS rfl rfl rfl call45 (fun g => (.cons (g19.1 g) .nil)) (fun g => (c_last (hS.ext.get hg) hok)) ?_; clear hS; intro v20 w hS g20
 refine sgc hS rfl rfl rfl call29 (fun g => (.cons (g14.1 g) (.cons (g15.1 g) (.cons (g20.1 g) .nil)))) (fun g => c_lout) ?_; clear hS; intro v21 w hS g21
 refine sg rfl rfl rfl (fun g => (yNot (g21.1 g))) (fun v22 g22 => ?_)
 refine sv (yAnd rfl (fun hB => (g22.1 hB)) rfl) <| vA <| nil <| cwQ <| wp_ret ?_
 exact rvQ hS
theorem c_begins {gm : Nat} {w0 : World} : CE Tryz.prog 19 #[ptQ gm] w0 (fun u w' => ∃ p1, u = .func (.func 44) #[] [ptQ p1].toArray ∧ St w0 w' [blk p1 [ptQ gm] 89]) := by
 refine enQ func19 rfl ntmps19 rfl fun hS => ?_
 refine seq <| region ?_
 refine sbox hS rfl rfl fun b1 w hS => ?_
 refine vA <| nil <| cwQ <| seq <| region <| sv (yFn e1) <| vA <| nil <| cwQ <| wp_ret <| retQ (res1 rfl rfl) ?_
 exact ⟨b1, rfl, hS⟩
theorem it_begins {c : Clt} {ar ap af ah ai : Option Addr} {cr cp cf ch ci : Nat} {gm m p1 : Nat} {w0 : World} (hok : ClOk c) : ItR Tryz.prog 44 [ptQ p1] w0 [blk p1 [ptQ gm] 89] dnC (fun w => w.heap[gm]? = some (.cells ((gcQ c ar ap af ah ai cr cp cf ch ci m) : List Value).toArray 108 (0, 0))) (dnI (lastC c + 1).toNat) := by
 have hd := hok.del
 have hn := hok.n
 have hll : lastC c ≤ 60 ∧ -31 ≤ lastC c := by unfold lastC; omega
 intro yl Cb w L hRd hY h0 hS
 have hg : w.heap[gm]? = some (.cells ((gcQ c ar ap af ah ai cr cp cf ch ci m) : List Value).toArray 108 (0, 0)) := hRd [] w L [blk p1 [ptQ gm] 89] h0 hS
 replace hS : StX [] w0 w (blk p1 [ptQ gm] 89 :: L) := hS
 refine enterX func44 rfl ntmps44 rfl ?_
 skip
 refine seqX <| regionX rfl <| vL rfl isAgg89 hS rfl ?_
 refine scV hS call45 e1 (c_last hg hok) fun w hS => ?_
 refine vA <| nil <| cxQ <| blockX <| loopX (fun f w zz => ∃ (k : Nat) (i : Int) (P : List Int) (L : List Bx.Item), f 0 = .func (.yield yl) #[] #[] ∧ f 1 = ptQ p1 ∧ f 3 = .int .i64 i ∧ StX [] w0 w (blk p1 [ptQ gm] 89 :: L) ∧ (k ≤ 61) ∧ (i = (k : Int) - 1 ∨ (k = 0 ∧ i < 0 ∧ -100 ≤ i)) ∧ (P ++ dnI k = dnI (lastC c + 1).toNat) ∧ (Cb true P L) ∧ zz = k + 1) _ ⟨_, rfl, (lastC c + 1).toNat, _, [], L, rfl, rfl, rfl, hS, (by omega), (by omega), (rfl), (h0), rfl⟩ ?_
 clear hS
 rintro f w _ ⟨k, i, P, L, h0, h1, h3, hS, hk, hik, hP, hcb, rfl⟩
 refine seqX <| seqX <| regionL <| preX 5 rfl <| sv (yMove h3) <| sv (yGeq rfl rfl) <| vM ?_
 refine sg rfl rfl rfl (fun g => (yMove h0)) (fun v9 g9 => ?_)
 refine sg rfl rfl rfl (fun g => (yMove h3)) (fun v10 g10 => ?_)
 refine nil ?_
 show wpListIn _ _ _ _ _ _ _ _
 refine yieldG rfl rfl rfl (fun hne => ?_) (fun g => ⟨(g9.1 g), (.cons (g10.1 g) .nil), (hY P i w L [blk p1 [ptQ gm] 89] (dn_pre hik hP (of_decide_eq_true g)) hcb hS), ?_⟩)
 ·
  refine endX rfl <| sv (yAnd rfl (fun hB => (show _ = Value.bool true from absurd (by assumption) hne)) rfl) <| nil <| cxQ ?_
  refine condX rfl (fun c12 => ?_) (fun c12 => ?_)
  ·
   skip
   exfalso; apply hne; revert c12; cases decide (0 ≤ i) <;> simp
  skip
  obtain rfl := dn_end hik hP (fun h => hne (decide_eq_true h))
  refine exitX ?_
  show bodyPostM (FX none) 0 _ _ _ .normal _ _
  refine leafXN (results_none rfl _ _ _) ?_
  exact ⟨L, hS.sub (.cons _ lrQ), .inl hcb⟩
 have g := of_decide_eq_true g
 clear hS hcb; rintro _ w ⟨bq, L, rfl, hcb, hS⟩
 replace hS : StX [] w0 w (blk p1 [ptQ gm] 89 :: L) := hS
 refine endX rfl <| sv (yAnd rfl (fun hB => rfl) rfl) <| nil <| cxQ ?_
 refine condX rfl (fun c12 => ?_) (fun c12 => ?_)
 ·
  skip
  obtain rfl : bq = true := by cases bq; simp [g] at c12; rfl
  obtain ⟨j, rfl, rfl⟩ := dn_hit hik g
  refine skipX <| cxQ <| seqX <| blockX <| skipX <| cxQ <| regionX rfl <| sv (yMove h3) <| sv (ySubQ rfl rfl) <| vA <| nil ?_
  exact ⟨_, _, rfl, ⟨j, _, P ++ [(j : Int)], L, h0, h1, rfl, hS, (by omega), (.inl rfl), (dn_next hP), (hcb), rfl⟩, by omega⟩
 skip
 obtain rfl : bq = false := by cases bq; rfl; simp [g] at c12
 refine exitX ?_
 show bodyPostM (FX none) 0 _ _ _ .normal _ _
 refine leafXN (results_none rfl _ _ _) ?_
 exact ⟨L, hS.sub (.cons _ lrQ), .inr ⟨_, hcb⟩⟩
theorem c_witness {c : Clt} {ar ap af ah ai : Option Addr} {cr cp cf ch ci : Nat} {g m rr : Nat} {r : Int × Int} {i : Int} {es : List ((Int × Int) × Value)} {w0 w : World} {L9 : List Bx.Item} (hT : RClt w0 (ctQ c ar ap af ah ai cr cp cf ch ci) c) (hok : ClOk c) (hS : StX [] w0 w (blk g (gcQ c ar ap af ah ai cr cp cf ch ci m) 108 :: mapI m encSp es :: packI (vsI c es) :: blk rr [ptQ g, .int .i64 r.1, .int .i64 r.2] 91 :: L9)) (hi : 0 ≤ i ∧ i ≤ lastC c) : CE Tryz.prog 20 #[ptQ rr, .int .i64 i] w (fun u w' => ∃ hx ax es', u = .tuple #[.agg [.int .i64 hx, .int .i64 ax].toArray, .bool (witC c i)] ∧ StX [] w0 w' (blk g (gcQ c ar ap af ah ai cr cp cf ch ci m) 108 :: mapI m encSp es' :: packI (vsI c es') :: blk rr [ptQ g, .int .i64 r.1, .int .i64 r.2] 91 :: L9)) := by
 have hd := hok.del
 have hn := hok.n
 have hf := hok.frm
 have hr := hok.riv.1
 obtain ⟨hB, hFl, hFr, hH, hR⟩ := clt_parts hT
 have hll : lastC c ≤ 60 ∧ -31 ≤ lastC c := by unfold lastC; omega
 have hql := quiet_le hok
 have hpo := plan_okR hok hi.1 hi.2 (by omega)
 have hnh := hok.nh
 refine enter func20 rfl ntmps20 rfl ?_
 skip
 refine seq <| region ?_
 refine salloc hS zeroValue93 rfl fun b4 w hS => ?_
 refine vA <| nil <| cwQ <| seq <| seq <| region <| vM <| sv (yNil rfl) <| sv (fa91_0 rfl) <| sv (yLdB rfl isAgg89 (hS.at rr) rfl) <| sv (yNil rfl) <| sv (fa108_0 rfl) <| sv (fa41_2 rfl) ?_
 refine sv (yLdB rfl isAgg39 (hS.at g) rfl) <| sv (yLen rfl underlying39) <| vM <| nil <| cwQ <| block <| loop (fun f w zz => ∃ (k : Nat) (es : List ((Int × Int) × Value)), f 0 = ptQ rr ∧ f 1 = .int .i64 i ∧ f 4 = ptQ b4 ∧ f 16 = .int .i64 (c.hist.length : Int) ∧ f 17 = .int .i64 (k : Int) ∧ StX [] w0 w (blk g (gcQ c ar ap af ah ai cr cp cf ch ci m) 108 :: mapI m encSp es :: packI (vsI c es) :: blk b4 [.int .i64 0, .int .i64 0] 93 :: blk rr [ptQ g, .int .i64 r.1, .int .i64 r.2] 91 :: L9) ∧ (k ≤ c.hist.length) ∧ (∀ q, q < k → failC c q (planC c i) < 0) ∧ zz = c.hist.length - k) _ ⟨_, rfl, 0, _, rfl, rfl, rfl, rfl, rfl, (hS.perm (List.perm_append_comm_assoc [_] [_, _, _] _)), (Nat.zero_le _), (fun _ h => absurd h (by omega)), rfl⟩ ?_
 clear hS
 rintro f w _ ⟨k, es, h0, h1, h4, h16, h17, hS, hk, hno, rfl⟩
 refine seq <| region <| sv (yLss h17 h16) <| nil <| cwQ <| seq ?_
 refine cond rfl ?_ ?_ <;> intro c18 <;> simp only [BS, ne_eq] at c18
 ·
  have hkl : k < c.hist.length := by omega
  refine skip <| cwQ <| seq <| block <| seq <| region <| sv (yMove h17) <| vA <| nil <| cwQ <| seq ?_
  refine rmQ (fun w => StX [] w0 w (blk g (gcQ c ar ap af ah ai cr cp cf ch ci m) 108 :: mapI m encSp es :: packI (vsI c es) :: blk b4 [.int .i64 0, .int .i64 0] 93 :: blk rr [ptQ g, .int .i64 r.1, .int .i64 r.2] 91 :: L9)) (fun _ => True) [11] [] mixed hS ?_; clear hS; intro w hS
  refine mQ 0 rfl (fun w hS => yMove h0) <| mQ 1 rfl (fun w hS => yNil rfl) <| mQ 2 rfl (fun w hS => fa91_0 rfl) <| mq 1 3 [11] (by kernel_rfl) rfl (sbQ hS) (fun w hS => yLdB rfl isAgg89 (hS.at rr) rfl) <| mQ 4 rfl (fun w hS => yMove rfl) <| mQ 5 rfl (fun w hS => yMove h0) <| mQ 6 rfl (fun w hS => yNil rfl) <| mQ 7 rfl (fun w hS => fa91_0 rfl) <| mq 1 8 [10, 11] (by kernel_rfl) rfl (sbQ hS) (fun w hS => yLdB rfl isAgg89 (hS.at rr) rfl) <| mQ 9 rfl (fun w hS => yMove h1) <| m1Q 10 rfl ?_
  refine scV hS call23 e2 (c_plan (hS.at g) hok ⟨by omega, by omega⟩) fun w hS => ?_
  refine nil <| nnQ (sbQ hS) <| mw <| m1Q 11 rfl ?_
  refine scall call26 e3 (c_fails hT hok hS hkl hpo) ?_
  clear hS; rintro _ w ⟨es', rfl, hS⟩
  refine nil ⟨⟨fun h => absurd h (by decide), fun _ _ => trivial⟩, mw ?_⟩
  refine mQ 12 rfl (fun w hS => yAsg rfl) <| me (by kernel_rfl) <| cwQ <| seq <| region <| vM <| sv (yGeq rfl rfl) <| nil <| cwQ ?_
  refine cond rfl ?_ ?_ <;> intro c33 <;> simp only [BS, ne_eq] at c33
  ·
   have hfin : witC c i = true := wit_yes hkl c33
   have hfb := fail_bd (c := c) (k := k) (p := planC c i) c.river.length 0
   have hrv := hok.riv.1
   have hfc : failC c k (planC c i) = failK c k (planC c i) c.river.length 0 := rfl
   rw [← hfc] at hfb
   refine seq <| region <| vM <| sv (yMove h0) <| sv (yNil rfl) <| sv (fa91_0 rfl) <| sv (yLdB rfl isAgg89 (hS.at rr) rfl) <| sv (yNil rfl) <| sv (fa108_1 rfl) <| sv (yLdB rfl isAgg3 (hS.at g) rfl) <| vM <| sv (yAddQ rfl rfl) <| sv (yBuild zeroValue93 rfl pl93 (.cons rfl rfl (.cons rfl rfl .nil)) rfl) ?_
   refine sS hS h4 sizeOf93 fun w hS => ?_
   refine vA <| nil <| cwQ ?_
   refine wp_ret (blockR (thenR (thenR (blockR (thenR ?_)))))
   refine retQ (resV2 rfl (rc h4 isAgg93 sizeOf93 (hS.at _) rfl rfl) (rt rfl)) ?_
   rw [← hfin]
   exact ⟨_, _, _, rfl, hS.sub (.cons_cons _ (.cons_cons _ (.cons_cons _ (.cons _ lrQ))))⟩
  refine skip <| cwQ <| region <| sv (yAddQ h17 rfl) <| vM <| nil ?_
  exact ⟨_, _, rfl, ⟨k + 1, _, h0, h1, h4, h16, rfl, hS, (by omega), (fun q hq => by
   by_cases e : q = k
   ·
    subst e; omega
   exact hno q (by omega)), rfl⟩, by omega⟩
 have hfin : witC c i = false := wit_no fun q hq => hno q (by omega)
 refine exit <| cwQ <| seq <| region <| sv (yBuild zeroValue93 rfl pl93 .nil rfl) ?_
 refine sS hS h4 sizeOf93 fun w hS => ?_
 refine vA <| nil <| cwQ <| wp_ret <| retQ (resV2 rfl (rc h4 isAgg93 sizeOf93 (hS.at _) rfl rfl) (rt rfl)) ?_
 rw [← hfin]
 exact ⟨_, _, _, rfl, hS.sub (.cons_cons _ (.cons_cons _ (.cons_cons _ (.cons _ lrQ))))⟩
theorem c_peak1 {c : Clt} {ar ap af ah ai : Option Addr} {cr cp cf ch ci : Nat} {g m rr b3 b5 b9 : Nat} {r : Int × Int} {p : Pln} {i : Int} {w0 : World} (h5 : w0.heap[b5]? = some (.cells ([.int .i64 p.close, .int .i64 p.opn] : List Value).toArray 45 (0, 0))) (h9 : w0.heap[b9]? = some (.cells ([.int .i64 (p.close - frC c + c.delay)] : List Value).toArray 3 (0, 0))) (h3 : w0.heap[b3]? = some (.cells ([ptQ rr] : List Value).toArray 79 (0, 0))) (hr0 : w0.heap[rr]? = some (.cells ([ptQ g, .int .i64 r.1, .int .i64 r.2] : List Value).toArray 91 (0, 0))) (hg : w0.heap[g]? = some (.cells ((gcQ c ar ap af ah ai cr cp cf ch ci m) : List Value).toArray 108 (0, 0))) (hok : ClOk c) (hp : PlnOk c p) (hi : 0 ≤ i ∧ i ≤ 100) : CV Tryz.prog 71 #[.int .i64 i, ptQ b5, ptQ b9, ptQ b3] w0 (.bool (opnC c p i)) := by
 have hd := hok.del
 have hn := hok.n
 have hf := hok.frm
 have hpb : -1 ≤ p.close ∧ p.close ≤ 300000 ∧ -1 ≤ p.opn ∧ p.opn ≤ 1000000 := by
  rcases hp with e | e
  ·
   rw [e]; decide
  unfold lastC at e; omega
 refine enQ func71 rfl ntmps71 rfl fun hS => ?_
 refine seq <| region <| vA <| nil <| cwQ <| seq ?_
 rcases opn3 c p i with hc3 | ⟨hc3, hc4⟩ | ⟨hc3, hc4⟩
 ·
  refine region_mix (fun w => Ext w0 w) 23 mixed hS ?_
  clear hS; intro w hS
  refine fsR 0 rfl hS.ext (fun w hS => yLdBA rfl isAgg45 sizeOf45 (hS.get h5) rfl rfl) <| awQ <| a1Q 1 rfl ?_
  refine scV hS call17 .nil c_never fun w hS => ?_
  refine nil ?_
  refine ⟨fun _ => hS.ext, ?_⟩
  refine awQ <| fsR 2 rfl hS.ext (fun w hS => eqS45 rfl rfl) <| fsR 3 rfl hS.ext (fun w hS => yMove rfl) <| fkR 4 rfl rfl hS.ext rfl (nvQ hc3) <| fkR 5 rfl rfl hS.ext rfl (nvQ hc3) <| fkR 6 rfl rfl hS.ext rfl (nvQ hc3) <| fsR 7 rfl hS.ext (fun w hS => yOr1 rfl (never_yes hc3) rfl) <| fsR 8 rfl hS.ext (fun w hS => yMove rfl) <| fkR 9 rfl rfl hS.ext (u := .bool true) rfl (by simp) <| fkR 10 rfl rfl hS.ext (u := .bool true) rfl (by simp) <| fkR 11 rfl rfl hS.ext (u := .bool true) rfl (by simp) <| fkR 12 rfl rfl hS.ext (u := .bool true) rfl (by simp) <| fkR 13 rfl rfl hS.ext (u := .bool true) rfl (by simp) ?_
  refine fkR 14 rfl rfl hS.ext (u := .bool true) rfl (by simp) <| fkR 15 rfl rfl hS.ext (u := .bool true) rfl (by simp) <| fkR 16 rfl rfl hS.ext (u := .bool true) rfl (by simp) <| fkR 17 rfl rfl hS.ext (u := .bool true) rfl (by simp) <| fkR 18 rfl rfl hS.ext (u := .bool true) rfl (by simp) <| fkR 19 rfl rfl hS.ext (u := .bool true) rfl (by simp) <| fkR 20 rfl rfl hS.ext (u := .bool true) rfl (by simp) <| fsR 21 rfl hS.ext (fun w hS => yOr1 rfl rfl rfl) <| fsR 22 rfl hS.ext (fun w hS => yAsg rfl) <| a_end (by kernel_rfl) <| cwQ <| wp_ret ?_
  exact retV (res1 rfl (congrArg Value.bool (by first | exact (opn_aI hc3).symm | exact (opn_bI hc4).symm | exact (opn_cI hc3 hc4).symm))) hS.ext
 ·
  refine region_mix (fun w => Ext w0 w) 23 mixed hS ?_
  clear hS; intro w hS
  refine fsR 0 rfl hS.ext (fun w hS => yLdBA rfl isAgg45 sizeOf45 (hS.get h5) rfl rfl) <| awQ <| a1Q 1 rfl ?_
  refine scV hS call17 .nil c_never fun w hS => ?_
  refine nil ?_
  refine ⟨fun _ => hS.ext, ?_⟩
  refine awQ <| fsR 2 rfl hS.ext (fun w hS => eqS45 rfl rfl) <| fsR 3 rfl hS.ext (fun w hS => yMove rfl) <| fgR 4 rfl rfl hS.ext (congrArg Value.bool (never_no hc3)) (fun w hS => yMove rfl) <| fgR 5 rfl rfl hS.ext (congrArg Value.bool (never_no hc3)) (fun w hS => yLdB rfl isAgg3 (hS.get h9) rfl) <| fgR 6 rfl rfl hS.ext (congrArg Value.bool (never_no hc3)) (fun w hS => yLeq rfl rfl) <| fsR 7 rfl hS.ext (fun w hS => Y.to (yOr0 rfl (never_no hc3) rfl rfl) (congrArg Value.bool (decide_eq_true hc4))) <| fsR 8 rfl hS.ext (fun w hS => yMove rfl) <| fkR 9 rfl rfl hS.ext (u := .bool true) rfl (by simp) <| fkR 10 rfl rfl hS.ext (u := .bool true) rfl (by simp) <| fkR 11 rfl rfl hS.ext (u := .bool true) rfl (by simp) <| fkR 12 rfl rfl hS.ext (u := .bool true) rfl (by simp) <| fkR 13 rfl rfl hS.ext (u := .bool true) rfl (by simp) ?_
  refine fkR 14 rfl rfl hS.ext (u := .bool true) rfl (by simp) <| fkR 15 rfl rfl hS.ext (u := .bool true) rfl (by simp) <| fkR 16 rfl rfl hS.ext (u := .bool true) rfl (by simp) <| fkR 17 rfl rfl hS.ext (u := .bool true) rfl (by simp) <| fkR 18 rfl rfl hS.ext (u := .bool true) rfl (by simp) <| fkR 19 rfl rfl hS.ext (u := .bool true) rfl (by simp) <| fkR 20 rfl rfl hS.ext (u := .bool true) rfl (by simp) <| fsR 21 rfl hS.ext (fun w hS => yOr1 rfl rfl rfl) <| fsR 22 rfl hS.ext (fun w hS => yAsg rfl) <| a_end (by kernel_rfl) <| cwQ <| wp_ret ?_
  exact retV (res1 rfl (congrArg Value.bool (by first | exact (opn_aI hc3).symm | exact (opn_bI hc4).symm | exact (opn_cI hc3 hc4).symm))) hS.ext
 refine region_mix (fun w => Ext w0 w) 23 mixed hS ?_
 clear hS; intro w hS
 refine fsR 0 rfl hS.ext (fun w hS => yLdBA rfl isAgg45 sizeOf45 (hS.get h5) rfl rfl) <| awQ <| a1Q 1 rfl ?_
 refine scV hS call17 .nil c_never fun w hS => ?_
 refine nil ?_
 refine ⟨fun _ => hS.ext, ?_⟩
 refine awQ <| fsR 2 rfl hS.ext (fun w hS => eqS45 rfl rfl) <| fsR 3 rfl hS.ext (fun w hS => yMove rfl) <| fgR 4 rfl rfl hS.ext (congrArg Value.bool (never_no hc3)) (fun w hS => yMove rfl) <| fgR 5 rfl rfl hS.ext (congrArg Value.bool (never_no hc3)) (fun w hS => yLdB rfl isAgg3 (hS.get h9) rfl) <| fgR 6 rfl rfl hS.ext (congrArg Value.bool (never_no hc3)) (fun w hS => yLeq rfl rfl) <| fsR 7 rfl hS.ext (fun w hS => Y.to (yOr0 rfl (never_no hc3) rfl rfl) (congrArg Value.bool (decide_eq_false hc4))) <| fsR 8 rfl hS.ext (fun w hS => yMove rfl) <| fgR 9 rfl rfl hS.ext rfl (fun w hS => yMove rfl) <| fgR 10 rfl rfl hS.ext rfl (fun w hS => fa45_1 rfl) <| fgR 11 rfl rfl hS.ext rfl (fun w hS => yLdB rfl isAgg3 (hS.get h5) rfl) <| fgR 12 rfl rfl hS.ext rfl (fun w hS => yLdB rfl isAgg79 (hS.get h3) rfl) <| fgR 13 rfl rfl hS.ext rfl (fun w hS => yNil rfl) ?_
 refine fgR 14 rfl rfl hS.ext rfl (fun w hS => fa91_0 rfl) <| fgR 15 rfl rfl hS.ext rfl (fun w hS => yLdB rfl isAgg89 (hS.get hr0) rfl) <| fgR 16 rfl rfl hS.ext rfl (fun w hS => yNil rfl) <| fgR 17 rfl rfl hS.ext rfl (fun w hS => fa108_1 rfl) <| fgR 18 rfl rfl hS.ext rfl (fun w hS => yLdB rfl isAgg3 (hS.get hg) rfl) <| fgR 19 rfl rfl hS.ext rfl (fun w hS => ySubQ rfl rfl) <| fgR 20 rfl rfl hS.ext rfl (fun w hS => yGeq rfl rfl) <| fsR 21 rfl hS.ext (fun w hS => yOr0 rfl rfl rfl rfl) <| fsR 22 rfl hS.ext (fun w hS => yAsg rfl) <| a_end (by kernel_rfl) <| cwQ <| wp_ret ?_
 exact retV (res1 rfl (congrArg Value.bool (by first | exact (opn_aI hc3).symm | exact (opn_bI hc4).symm | exact (opn_cI hc3 hc4).symm))) hS.ext
theorem c_peak {c : Clt} {ar ap af ah ai : Option Addr} {cr cp cf ch ci : Nat} {g m rr : Nat} {r : Int × Int} {k : Nat} {p : Pln} {es : List ((Int × Int) × Value)} {w0 w : World} {L9 : List Bx.Item} (hT : RClt w0 (ctQ c ar ap af ah ai cr cp cf ch ci) c) (hok : ClOk c) (hS : StX [] w0 w (blk g (gcQ c ar ap af ah ai cr cp cf ch ci m) 108 :: mapI m encSp es :: packI (vsI c es) :: blk rr [ptQ g, .int .i64 r.1, .int .i64 r.2] 91 :: L9)) (hk : k < c.hist.length) (hp : PlnOk c p) (hh : HoldK c k p) : CE Tryz.prog 43 #[ptQ rr, .int .i64 (k : Int), .agg (plnC p).toArray] w (fun u w' => ∃ x9 y9 es', u = .agg [.int .i64 x9, .int .i64 y9].toArray ∧ StX [] w0 w' (blk g (gcQ c ar ap af ah ai cr cp cf ch ci m) 108 :: mapI m encSp es' :: packI (vsI c es') :: blk rr [ptQ g, .int .i64 r.1, .int .i64 r.2] 91 :: L9)) := by
 have hd := hok.del
 have hn := hok.n
 have hf := hok.frm
 have hr := hok.riv.1
 obtain ⟨hB, hFl, hFr, hH, hR⟩ := clt_parts hT
 have hpb : -1 ≤ p.close ∧ p.close ≤ 300000 ∧ -1 ≤ p.opn ∧ p.opn ≤ 1000000 := by
  rcases hp with e | e
  ·
   rw [e]; decide
  unfold lastC at e; omega
 refine enter func43 rfl ntmps43 rfl ?_
 skip
 refine seq <| region ?_
 refine sbox hS rfl rfl fun b3 w hS => ?_
 refine sbox hS rfl rfl fun b5 w hS => ?_
 refine salloc hS zeroValue139 rfl fun b6 w hS => ?_
 refine nil <| cwQ <| seq <| region <| sv (yBuild zeroValue69 rfl pl69 .nil rfl) ?_
 refine salloc hS zeroValue69 rfl fun b8 w hS => ?_
 refine vA ?_
 refine sS hS rfl sizeOf69 fun w hS => ?_
 refine nil <| cwQ <| seq ?_
 refine rmQ (fun w => StX [] w0 w (blk b8 [.int .i64 0, .int .i64 0] 69 :: blk b6 [.int .i64 0, .int .i64 0] 139 :: blk b5 [.int .i64 p.close, .int .i64 p.opn] 45 :: blk b3 [ptQ rr] 79 :: blk g (gcQ c ar ap af ah ai cr cp cf ch ci m) 108 :: mapI m encSp es :: packI (vsI c es) :: blk rr [ptQ g, .int .i64 r.1, .int .i64 r.2] 91 :: L9)) (fun _ => True) [] [] mixed hS ?_; clear hS; intro w hS
 refine mQ 0 rfl (fun w hS => fa45_0 rfl) <| mq 1 1 [] (by kernel_rfl) rfl (sbQ hS) (fun w hS => yLdB rfl isAgg3 (hS.at _) rfl) <| mq 1 2 [] (by kernel_rfl) rfl (sbQ hS) (fun w hS => yLdB rfl isAgg79 (hS.at _) rfl) <| mQ 3 rfl (fun w hS => yNil rfl) <| mQ 4 rfl (fun w hS => fa91_0 rfl) <| mq 1 5 [] (by kernel_rfl) rfl (sbQ hS) (fun w hS => yLdB rfl isAgg89 (hS.at rr) rfl) <| mQ 6 rfl (fun w hS => yNil rfl) <| mQ 7 rfl (fun w hS => fa108_1 rfl) <| mq 1 8 [] (by kernel_rfl) rfl (sbQ hS) (fun w hS => yLdB rfl isAgg3 (hS.at g) rfl) <| mQ 9 rfl (fun w hS => ySubQ rfl rfl) <| mq 1 10 [] (by kernel_rfl) rfl (sbQ hS) (fun w hS => yLdB rfl isAgg79 (hS.at _) rfl) <| mQ 11 rfl (fun w hS => yNil rfl) <| mQ 12 rfl (fun w hS => fa91_0 rfl) ?_
 refine mq 1 13 [] (by kernel_rfl) rfl (sbQ hS) (fun w hS => yLdB rfl isAgg89 (hS.at rr) rfl) <| mQ 14 rfl (fun w hS => yNil rfl) <| mQ 15 rfl (fun w hS => fa108_0 rfl) <| mQ 16 rfl (fun w hS => fa41_6 rfl) <| mq 1 17 [] (by kernel_rfl) rfl (sbQ hS) (fun w hS => yLdB rfl isAgg3 (hS.at g) rfl) <| mQ 18 rfl (fun w hS => yAddQ rfl rfl) <| m1Q 19 rfl ?_
 refine salloc hS zeroValue3 rfl fun b9 w hS => ?_
 refine nil <| nnQ (sbQ hS) <| mw <| m1Q 20 rfl ?_
 refine sS hS rfl sizeOf3 fun w hS => ?_
 refine nil <| nnQ (sbQ hS) <| mw <| me (by kernel_rfl) <| cwQ <| seq <| region <| sv (yFn e3) <| vA <| nil <| cwQ <| seq <| seq ?_
 refine region <| vL rfl isAgg79 hS rfl <| sv (yNil rfl) <| sv (fa91_0 rfl) <| sv (yLdB rfl isAgg89 (hS.at rr) rfl) <| sv (yNil rfl) <| sv (fa108_2 rfl) <| sv (yLdB rfl isAgg3 (hS.at g) rfl) <| vM <| nil <| cwQ <| block <| loop (fun f w zz => ∃ (i q : Nat) (lo hi : Int) (es : List ((Int × Int) × Value)), f 1 = .int .i64 (k : Int) ∧ f 3 = ptQ b3 ∧ f 5 = ptQ b5 ∧ f 6 = ptQ b6 ∧ f 7 = .int .i64 (q : Int) ∧ f 8 = ptQ b8 ∧ f 9 = ptQ b9 ∧ f 10 = .func (.func 71) #[] ([ptQ b5, ptQ b9, ptQ b3] : List Value).toArray ∧ f 43 = .int .i64 (nC c : Int) ∧ f 44 = .int .i64 (i : Int) ∧ StX [] w0 w (blk g (gcQ c ar ap af ah ai cr cp cf ch ci m) 108 :: mapI m encSp es :: packI (vsI c es) :: blk b9 [.int .i64 (p.close - frC c + c.delay)] 3 :: blk b8 [.int .i64 lo, .int .i64 hi] 69 :: blk b6 [.int .i64 0, .int .i64 0] 139 :: blk b5 [.int .i64 p.close, .int .i64 p.opn] 45 :: blk b3 [ptQ rr] 79 :: blk rr [ptQ g, .int .i64 r.1, .int .i64 r.2] 91 :: L9) ∧ (i ≤ nC c) ∧ (q < nC c) ∧ zz = nC c - i) _ ⟨_, rfl, 0, 0, 0, 0, _, rfl, rfl, rfl, rfl, rfl, rfl, rfl, rfl, rfl, rfl, (hS.perm (List.perm_append_comm_assoc [_, _, _, _, _] [_, _, _] _)), (Nat.zero_le _), (by omega), rfl⟩ ?_
 clear hS
 rintro f w _ ⟨i, q, lo, hi, es, h1, h3, h5, h6, h7, h8, h9, h10, h43, h44, hS, hil, hqn, rfl⟩
 refine seq <| region <| sv (yLss h44 h43) <| nil <| cwQ <| seq ?_
 refine cond rfl ?_ ?_ <;> intro c45 <;> simp only [BS, ne_eq] at c45
 ·
  have hix : i < nC c := by omega
  refine skip <| cwQ <| seq <| block <| seq <| region <| sv (yMove h44) <| vA <| nil <| cwQ ?_
  refine seqJ (n := 132) (fun f w => ∃ (b12 : Nat) (es : List ((Int × Int) × Value)), f 1 = .int .i64 (k : Int) ∧ f 3 = ptQ b3 ∧ f 5 = ptQ b5 ∧ f 6 = ptQ b6 ∧ f 7 = .int .i64 (q : Int) ∧ f 8 = ptQ b8 ∧ f 9 = ptQ b9 ∧ f 10 = .func (.func 71) #[] ([ptQ b5, ptQ b9, ptQ b3] : List Value).toArray ∧ f 43 = .int .i64 (nC c : Int) ∧ f 44 = .int .i64 (i : Int) ∧ f 11 = .int .i64 (i : Int) ∧ f 12 = ptQ b12 ∧ StX [] w0 w (blk g (gcQ c ar ap af ah ai cr cp cf ch ci m) 108 :: mapI m encSp es :: packI (vsI c es) :: blk b12 [.int .i64 (inS c k p i).lo, .int .i64 (inS c k p i).hi] 69 :: blk b9 [.int .i64 (p.close - frC c + c.delay)] 3 :: blk b8 [.int .i64 lo, .int .i64 hi] 69 :: blk b6 [.int .i64 0, .int .i64 0] 139 :: blk b5 [.int .i64 p.close, .int .i64 p.opn] 45 :: blk b3 [ptQ rr] 79 :: blk rr [ptQ g, .int .i64 r.1, .int .i64 r.2] 91 :: L9) ∧ True) ?_ ?_
  ·
   refine rmQ (fun w => w.heap[b3]? = some (.cells ([ptQ rr] : List Value).toArray 79 (0, 0)) ∧ w.heap[rr]? = some (.cells ([ptQ g, .int .i64 r.1, .int .i64 r.2] : List Value).toArray 91 (0, 0)) ∧ w.heap[b5]? = some (.cells ([.int .i64 p.close, .int .i64 p.opn] : List Value).toArray 45 (0, 0))) (fun _ => True) [] [] mixed hS ?_; clear hS; intro w hS
   refine mq 1 0 [] (by kernel_rfl) rfl ⟨hS.at b3, hS.at rr, hS.at b5⟩ (fun w hS => yLdB h3 isAgg79 hS.1 rfl) <| mQ 1 rfl (fun w hS => yNil rfl) <| mQ 2 rfl (fun w hS => fa91_0 rfl) <| mq 1 3 [] (by kernel_rfl) rfl ⟨hS.at b3, hS.at rr, hS.at b5⟩ (fun w hS => yLdB rfl isAgg89 hS.2.1 rfl) <| mQ 4 rfl (fun w hS => yMove h1) <| mq 1 5 [] (by kernel_rfl) rfl ⟨hS.at b3, hS.at rr, hS.at b5⟩ (fun w hS => yLdBA h5 isAgg45 sizeOf45 hS.2.2 rfl rfl) <| mQ 6 rfl (fun w hS => yMove rfl) ?_
   refine ms (i := 7) (is := [11]) (by kernel_rfl) ⟨⟨_, rfl, ?_⟩, ⟨_, rfl, ?_⟩, trivial⟩
   ·
    refine scall call30 (.cons rfl e3) (c_inside hT hok (by first | exact hS | exact hS.perm (List.perm_append_comm_assoc [_] [_, _, _] _)) hk hp hix) ?_
    rintro _ w ⟨es', rfl, hM⟩; clear hS; (first | have hS : StX [] w0 w (blk g (gcQ c ar ap af ah ai cr cp cf ch ci m) 108 :: mapI m encSp es' :: packI (vsI c es') :: blk b9 [.int .i64 (p.close - frC c + c.delay)] 3 :: blk b8 [.int .i64 lo, .int .i64 hi] 69 :: blk b6 [.int .i64 0, .int .i64 0] 139 :: blk b5 [.int .i64 p.close, .int .i64 p.opn] 45 :: blk b3 [ptQ rr] 79 :: blk rr [ptQ g, .int .i64 r.1, .int .i64 r.2] 91 :: L9) := hM | have hS : StX [] w0 w (blk g (gcQ c ar ap af ah ai cr cp cf ch ci m) 108 :: mapI m encSp es' :: packI (vsI c es') :: blk b12 [.int .i64 0, .int .i64 0] 69 :: blk b9 [.int .i64 (p.close - frC c + c.delay)] 3 :: blk b8 [.int .i64 lo, .int .i64 hi] 69 :: blk b6 [.int .i64 0, .int .i64 0] 139 :: blk b5 [.int .i64 p.close, .int .i64 p.opn] 45 :: blk b3 [ptQ rr] 79 :: blk rr [ptQ g, .int .i64 r.1, .int .i64 r.2] 91 :: L9) := hM); clear hM
    refine nil <| nnQ ⟨hS.at b3, hS.at rr, hS.at b5⟩ <| mw <| mQ 8 rfl (fun w hS => yMove rfl) <| mQ 9 rfl (fun w hS => yExt rfl rfl) <| mQ 10 rfl (fun w hS => yExt rfl rfl) <| m1Q 11 rfl ?_
    refine salloc hS zeroValue69 rfl fun b12 w hS => ?_
    refine nil <| nnQ ⟨hS.at b3, hS.at rr, hS.at b5⟩ <| mw <| m1Q 12 rfl ?_
    refine sS hS rfl sizeOf69 fun w hS => ?_
    refine nil <| nnQ ⟨hS.at b3, hS.at rr, hS.at b5⟩ <| mw <| mQ 13 rfl (fun w hS => yAsg rfl) <| me (by kernel_rfl) ?_
    exact ⟨_, rfl, b12, _, h1, h3, h5, h6, h7, h8, h9, h10, h43, h44, rfl, rfl, (by first | exact hS | exact hS.perm (List.perm_append_comm_assoc [_] [_, _, _] _)), trivial⟩
   refine salloc hS zeroValue69 rfl fun b12 w hS => ?_
   refine nil <| nnQ ⟨hS.at b3, hS.at rr, hS.at b5⟩ <| mw <| m1Q 7 rfl ?_
   refine scall call30 (.cons rfl e3) (c_inside hT hok (by first | exact hS | exact hS.perm (List.perm_append_comm_assoc [_] [_, _, _] _)) hk hp hix) ?_
   rintro _ w ⟨es', rfl, hM⟩; clear hS; (first | have hS : StX [] w0 w (blk g (gcQ c ar ap af ah ai cr cp cf ch ci m) 108 :: mapI m encSp es' :: packI (vsI c es') :: blk b9 [.int .i64 (p.close - frC c + c.delay)] 3 :: blk b8 [.int .i64 lo, .int .i64 hi] 69 :: blk b6 [.int .i64 0, .int .i64 0] 139 :: blk b5 [.int .i64 p.close, .int .i64 p.opn] 45 :: blk b3 [ptQ rr] 79 :: blk rr [ptQ g, .int .i64 r.1, .int .i64 r.2] 91 :: L9) := hM | have hS : StX [] w0 w (blk g (gcQ c ar ap af ah ai cr cp cf ch ci m) 108 :: mapI m encSp es' :: packI (vsI c es') :: blk b12 [.int .i64 0, .int .i64 0] 69 :: blk b9 [.int .i64 (p.close - frC c + c.delay)] 3 :: blk b8 [.int .i64 lo, .int .i64 hi] 69 :: blk b6 [.int .i64 0, .int .i64 0] 139 :: blk b5 [.int .i64 p.close, .int .i64 p.opn] 45 :: blk b3 [ptQ rr] 79 :: blk rr [ptQ g, .int .i64 r.1, .int .i64 r.2] 91 :: L9) := hM); clear hM
   refine nil <| nnQ ⟨hS.at b3, hS.at rr, hS.at b5⟩ <| mw <| mQ 8 rfl (fun w hS => yMove rfl) <| mQ 9 rfl (fun w hS => yExt rfl rfl) <| mQ 10 rfl (fun w hS => yExt rfl rfl) <| m1Q 12 rfl ?_
   refine sS hS rfl sizeOf69 fun w hS => ?_
   refine nil <| nnQ ⟨hS.at b3, hS.at rr, hS.at b5⟩ <| mw <| mQ 13 rfl (fun w hS => yAsg rfl) <| me (by kernel_rfl) ?_
   exact ⟨_, rfl, b12, _, h1, h3, h5, h6, h7, h8, h9, h10, h43, h44, rfl, rfl, (by first | exact hS | exact hS.perm (List.perm_append_comm_assoc [_] [_, _, _] _)), trivial⟩
  clear hS; rintro f w ⟨b12, es, h1, h3, h5, h6, h7, h8, h9, h10, h43, h44, h11, h12, hS, -⟩
  refine seqJ (n := 132) (fun f w => ∃ (gr : Bool), f 1 = .int .i64 (k : Int) ∧ f 3 = ptQ b3 ∧ f 5 = ptQ b5 ∧ f 6 = ptQ b6 ∧ f 7 = .int .i64 (q : Int) ∧ f 8 = ptQ b8 ∧ f 9 = ptQ b9 ∧ f 10 = .func (.func 71) #[] ([ptQ b5, ptQ b9, ptQ b3] : List Value).toArray ∧ f 43 = .int .i64 (nC c : Int) ∧ f 44 = .int .i64 (i : Int) ∧ f 11 = .int .i64 (i : Int) ∧ f 12 = ptQ b12 ∧ f 14 = .bool gr ∧ StX [] w0 w (blk g (gcQ c ar ap af ah ai cr cp cf ch ci m) 108 :: mapI m encSp es :: packI (vsI c es) :: blk b12 [.int .i64 (inS c k p i).lo, .int .i64 (inS c k p i).hi] 69 :: blk b9 [.int .i64 (p.close - frC c + c.delay)] 3 :: blk b8 [.int .i64 lo, .int .i64 hi] 69 :: blk b6 [.int .i64 0, .int .i64 0] 139 :: blk b5 [.int .i64 p.close, .int .i64 p.opn] 45 :: blk b3 [ptQ rr] 79 :: blk rr [ptQ g, .int .i64 r.1, .int .i64 r.2] 91 :: L9) ∧ True) ?_ ?_
  ·
   refine region <| sv (fa69_1 h12) <| vL rfl isAgg3 hS rfl <| sv (fa69_1 h8) <| vL rfl isAgg3 hS rfl <| sv (yGtr rfl rfl) <| vM ?_
   refine sg rfl rfl rfl (fun g => (fa69_1 h12)) (fun v64 g64 => ?_)
   refine sg rfl rfl rfl (fun g => (yLdB (g64.1 g) isAgg3 (hS.at _) rfl)) (fun v65 g65 => ?_)
   refine sg rfl rfl rfl (fun g => (fa69_1 h8)) (fun v66 g66 => ?_)
   refine sg rfl rfl rfl (fun g => (yLdB (g66.1 g) isAgg3 (hS.at _) rfl)) (fun v67 g67 => ?_)
   refine sg rfl rfl rfl (fun g => (yEql (g65.1 g) (g67.1 g))) (fun v68 g68 => ?_)
   refine sg rfl rfl rfl (fun g => (yMove (g68.1 g))) (fun v69 g69 => ?_)
   refine sgg rfl rfl g69 (fun g => (fa69_0 h12)) (fun v70 g70 => ?_)
   refine sgg rfl rfl g69 (fun g => (yLdB (g70.1 g) isAgg3 (hS.at _) rfl)) (fun v71 g71 => ?_)
   refine sgg rfl rfl g69 (fun g => (fa69_0 h8)) (fun v72 g72 => ?_)
   refine sgg rfl rfl g69 (fun g => (yLdB (g72.1 g) isAgg3 (hS.at _) rfl)) (fun v73 g73 => ?_)
   refine sgg rfl rfl g69 (fun g => (yGtr (g71.1 g) (g73.1 g))) (fun v74 g74 => ?_)
   refine sg rfl rfl rfl (fun g => (yAnd (g69.1 g) (fun hB => (g74.1 ⟨g, hB⟩)) rfl)) (fun v75 g75 => ?_)
   refine sv (yOr rfl rfl (fun hB => (g75.1 hB))) <| vA <| nil ?_
   exact ⟨_, rfl, _, h1, h3, h5, h6, h7, h8, h9, h10, h43, h44, h11, h12, rfl, hS, trivial⟩
  clear hS; rintro f w ⟨gr, h1, h3, h5, h6, h7, h8, h9, h10, h43, h44, h11, h12, h14, hS, -⟩
  refine seqJ (n := 132) (fun f w => ∃ (gr : Bool) (es : List ((Int × Int) × Value)), f 1 = .int .i64 (k : Int) ∧ f 3 = ptQ b3 ∧ f 5 = ptQ b5 ∧ f 6 = ptQ b6 ∧ f 7 = .int .i64 (q : Int) ∧ f 8 = ptQ b8 ∧ f 9 = ptQ b9 ∧ f 10 = .func (.func 71) #[] ([ptQ b5, ptQ b9, ptQ b3] : List Value).toArray ∧ f 43 = .int .i64 (nC c : Int) ∧ f 44 = .int .i64 (i : Int) ∧ f 11 = .int .i64 (i : Int) ∧ f 12 = ptQ b12 ∧ f 14 = .bool gr ∧ StX [] w0 w (blk g (gcQ c ar ap af ah ai cr cp cf ch ci m) 108 :: mapI m encSp es :: packI (vsI c es) :: blk b12 [.int .i64 (inS c k p i).lo, .int .i64 (inS c k p i).hi] 69 :: blk b9 [.int .i64 (p.close - frC c + c.delay)] 3 :: blk b8 [.int .i64 lo, .int .i64 hi] 69 :: blk b6 [.int .i64 0, .int .i64 0] 139 :: blk b5 [.int .i64 p.close, .int .i64 p.opn] 45 :: blk b3 [ptQ rr] 79 :: blk rr [ptQ g, .int .i64 r.1, .int .i64 r.2] 91 :: L9) ∧ True) ?_ ?_
  ·
   refine seq <| region <| sv (yMove h11) <| sv (yGtr rfl rfl) <| vM ?_
   refine sg rfl rfl rfl (fun g => (yMove h10)) (fun v80 g80 => ?_)
   refine sg rfl rfl rfl (fun g => (yMove h11)) (fun v81 g81 => ?_)
   have hPK := fun (z : Int) (hz : 0 ≤ z ∧ z ≤ 100) => c_peak1 (hS.at b5) (hS.at b9) (hS.at b3) (hS.at rr) (hS.at g) hok hp hz
   refine sgcf hS rfl rfl rfl (fun g => (g80.1 g)) call71 (fun g => (.cons (g81.1 g) .nil)) (fun g => (hPK _ ⟨by omega, by omega⟩)) ?_; clear hS; intro v82 w hS g82
   refine sg rfl rfl rfl (fun g => (yNot (g82.1 g))) (fun v83 g83 => ?_)
   refine sv (yAnd rfl (fun hB => (g83.1 hB)) rfl) <| vM ?_
   refine sg rfl rfl rfl (fun g => (yMove h10)) (fun v86 g86 => ?_)
   refine sg rfl rfl rfl (fun g => (yMove h7)) (fun v87 g87 => ?_)
   have hPK := fun (z : Int) (hz : 0 ≤ z ∧ z ≤ 100) => c_peak1 (hS.at b5) (hS.at b9) (hS.at b3) (hS.at rr) (hS.at g) hok hp hz
   refine sgcf hS rfl rfl rfl (fun g => (g86.1 g)) call71 (fun g => (.cons (g87.1 g) .nil)) (fun g => (hPK _ ⟨by omega, by omega⟩)) ?_; clear hS; intro v88 w hS g88
   refine sg rfl rfl rfl (fun g => (yNot (g88.1 g))) (fun v89 g89 => ?_)
   refine sv (yAnd rfl (fun hB => (g89.1 hB)) rfl) <| nil <| cwQ ?_
   refine cond rfl (fun c90 => ?_) (fun c90 => ?_)
   ·
    obtain ⟨ho1, ho2⟩ := shut2 c90
    obtain ⟨sh, hsh, hs1, hs2, hnv, hsn⟩ := hold_vol hok hp hh hix ho1
    obtain ⟨sh', hsh', hs3, hs4, -, -⟩ := hold_vol hok hp hh hqn ho2
    obtain rfl : sh = sh' := by omega
    rw [hsh] at hS
    refine seq ?_
    refine rmQ (fun w => StX [] w0 w (blk g (gcQ c ar ap af ah ai cr cp cf ch ci m) 108 :: mapI m encSp es :: packI (vsI c es) :: blk b12 [.int .i64 (inS c k p i).lo, .int .i64 (inS c k p i).hi] 69 :: blk b9 [.int .i64 (sh : Int)] 3 :: blk b8 [.int .i64 lo, .int .i64 hi] 69 :: blk b6 [.int .i64 0, .int .i64 0] 139 :: blk b5 [.int .i64 p.close, .int .i64 p.opn] 45 :: blk b3 [ptQ rr] 79 :: blk rr [ptQ g, .int .i64 r.1, .int .i64 r.2] 91 :: L9)) (fun _ => True) [7] [] mixed hS ?_; clear hS; intro w hS
    refine mq 1 0 [1, 2, 3, 7] (by kernel_rfl) rfl (sbQ hS) (fun w hS => yLdB h3 isAgg79 (hS.at _) rfl) <| mQ 1 rfl (fun w hS => yNil rfl) <| mQ 2 rfl (fun w hS => fa91_0 rfl) <| mq 1 3 [7] (by kernel_rfl) rfl (sbQ hS) (fun w hS => yLdB rfl isAgg89 (hS.at rr) rfl) <| mQ 4 rfl (fun w hS => yMove h1) <| mq 1 5 [6, 7] (by kernel_rfl) rfl (sbQ hS) (fun w hS => yLdB h9 isAgg3 (hS.at _) rfl) <| mQ 6 rfl (fun w hS => yBuild zeroValue155 rfl pl155 (.cons rfl rfl (.cons rfl rfl .nil)) rfl) <| m1Q 7 rfl ?_
    refine scall call57 e2 (c_run hT hok hS hk hsn) ?_
    clear hS; rintro _ w ⟨es', al, cl, rfl, hvs, hS⟩
    obtain ⟨bl, ol, cl0, hal, -⟩ := sl_at (hvs w (hS.ok (packI (vsI c es')) (by simp))) (getD_get hs2)
    subst hal
    refine nil ⟨⟨fun h => absurd h (by decide), fun _ _ => trivial⟩, mw ?_⟩
    refine mQ 8 rfl (fun w hS => yAsg rfl) <| me (by kernel_rfl) <| cwQ <| region_draw mixed (by kernel_rfl) hS <| qv (fun w hS => yMove rfl) <| qv (fun w hS => yMove h11) <| qv (fun w hS => yLdB h9 isAgg3 (hS.at _) rfl) <| qv (fun w hS => ySubQ rfl rfl) <| qv (fun w hS => yIxQ (m := (i : Int) - (sh : Int)) rfl rfl rfl runUnderlying30 sizeOf3) ?_
    refine qv (fun w hS => yLd rfl isAgg3 (show w.cell? ⟨bl, ol + ((i : Int) - (sh : Int)).toNat * 1, none⟩ = _ by rw [show (i : Int) - (sh : Int) = ((i - sh : Nat) : Int) by omega, Int.toNat_natCast]; exact sl_cell (hvs w (hS.ok (packI (vsI c es')) (by simp))) (getD_get hs2))) ?_
    refine qv (fun w hS => yMove rfl) <| qv (fun w hS => yMove h7) <| qv (fun w hS => yLdB h9 isAgg3 (hS.at _) rfl) <| qv (fun w hS => ySubQ rfl rfl) <| qv (fun w hS => yIxQ (m := (q : Int) - (sh : Int)) rfl rfl rfl runUnderlying30 sizeOf3) ?_
    refine qv (fun w hS => yLd rfl isAgg3 (show w.cell? ⟨bl, ol + ((q : Int) - (sh : Int)).toNat * 1, none⟩ = _ by rw [show (q : Int) - (sh : Int) = ((q - sh : Nat) : Int) by omega, Int.toNat_natCast]; exact sl_cell (hvs w (hS.ok (packI (vsI c es')) (by simp))) (getD_get hs4))) ?_
    refine qv (fun w hS => yGtr rfl rfl) <| qv (fun w hS => yAsg rfl) ?_
    clear hS; refine qnil (fun w hS => ?_)
    exact ⟨_, rfl, _, _, h1, h3, h5, h6, h7, h8, h9, h10, h43, h44, h11, h12, rfl, (by rw [hsh]; exact hS), trivial⟩
   refine skip ?_
   exact ⟨_, rfl, _, _, h1, h3, h5, h6, h7, h8, h9, h10, h43, h44, h11, h12, h14, hS, trivial⟩
  clear hS; rintro f w ⟨gr, es, h1, h3, h5, h6, h7, h8, h9, h10, h43, h44, h11, h12, h14, hS, -⟩
  refine seq <| region <| sv (yMove h11) <| sv (yEql rfl rfl) <| vM ?_
  refine sg rfl rfl rfl (fun g => (yMove h14)) (fun v115 g115 => ?_)
  refine sv (yOr rfl rfl (fun hB => (g115.1 hB))) <| nil <| cwQ ?_
  refine cond rfl (fun c116 => ?_) (fun c116 => ?_)
  ·
   skip
   refine region_tail mixed 3 (by kernel_rfl) hS <| qv (fun w hS => yMove h11) <| qv (fun w hS => yLdBA h12 isAgg69 sizeOf69 (hS.at _) rfl rfl) <| qv (fun w hS => yAsg rfl) ?_
   clear hS; refine qtl (fun w hS => ?_)
   refine sS hS h8 sizeOf69 fun w hS => ?_
   refine nil <| cwQ <| region <| sv (yAddQ h44 rfl) <| vM <| nil ?_
   exact ⟨_, _, rfl, ⟨i + 1, i, _, _, _, h1, h3, h5, h6, rfl, h8, h9, h10, h43, rfl, (sbQ hS), (by omega), (by omega), rfl⟩, by omega⟩
  skip
  refine skip <| cwQ <| region <| sv (yAddQ h44 rfl) <| vM <| nil ?_
  exact ⟨_, _, rfl, ⟨i + 1, _, _, _, _, h1, h3, h5, h6, h7, h8, h9, h10, h43, rfl, (sbQ hS), (by omega), (by omega), rfl⟩, by omega⟩
 refine exit <| cwQ <| seq <| region_tail mixed 12 (by kernel_rfl) hS <| qv (fun w hS => yLdB h3 isAgg79 (hS.at _) rfl) <| qv (fun w hS => yNil rfl) <| qv (fun w hS => fa91_0 rfl) <| qv (fun w hS => yLdB rfl isAgg89 (hS.at rr) rfl) <| qv (fun w hS => yNil rfl) <| qv (fun w hS => fa108_1 rfl) <| qv (fun w hS => yLdB rfl isAgg3 (hS.at g) rfl) <| qv (fun w hS => yMove h7) <| qv (fun w hS => yAddQ rfl rfl) ?_
 refine qv (fun w hS => fa69_1 h8) <| qv (fun w hS => yLdB rfl isAgg3 (hS.at _) rfl) <| qv (fun w hS => yBuild zeroValue139 rfl pl139 (.cons rfl rfl (.cons rfl rfl .nil)) rfl) ?_
 clear hS; refine qtl (fun w hS => ?_)
 refine sS hS h6 sizeOf139 fun w hS => ?_
 refine nil <| cwQ <| wp_ret <| retQ (resV1 rfl (rc h6 isAgg139 sizeOf139 (hS.at _) rfl rfl)) ?_
 exact ⟨_, _, _, rfl, by exact sbQ hS⟩
theorem c_peaks {c : Clt} {ar ap af ah ai : Option Addr} {cr cp cf ch ci : Nat} {g m rr : Nat} {r : Int × Int} {p : Pln} {es : List ((Int × Int) × Value)} {w0 w : World} {L9 : List Bx.Item} (hT : RClt w0 (ctQ c ar ap af ah ai cr cp cf ch ci) c) (hok : ClOk c) (hS : StX [] w0 w (blk g (gcQ c ar ap af ah ai cr cp cf ch ci m) 108 :: mapI m encSp es :: packI (vsI c es) :: blk rr [ptQ g, .int .i64 r.1, .int .i64 r.2] 91 :: L9)) (hp : PlnOk c p) (hh : ∀ k, k < c.hist.length → HoldK c k p) : CE Tryz.prog 18 #[ptQ rr, .agg (plnC p).toArray] w (fun u w' => ∃ a9 n9 c9 es', u = .slice a9 n9 c9 ∧ StX [] w0 w' (blk g (gcQ c ar ap af ah ai cr cp cf ch ci m) 108 :: mapI m encSp es' :: packI (vsI c es') :: blk rr [ptQ g, .int .i64 r.1, .int .i64 r.2] 91 :: L9)) := by
 have hnh := hok.nh
 refine enter func18 rfl ntmps18 rfl ?_
 skip
 refine seq <| region ?_
 refine sbox hS rfl rfl fun b3 w hS => ?_
 refine vA <| nil <| cwQ <| seq <| seq <| region <| vM <| sv (yNil rfl) <| sv (fa91_0 rfl) <| sv (yLdB rfl isAgg89 (hS.at rr) rfl) <| sv (yNil rfl) <| sv (fa108_0 rfl) <| sv (fa41_2 rfl) ?_
 refine sv (yLdB rfl isAgg39 (hS.at g) rfl) <| sv (yLen rfl underlying39) <| vM <| nil <| cwQ <| block <| loop (fun f w zz => ∃ (k : Nat) (v : Value) (cc : List Value) (es : List ((Int × Int) × Value)), f 0 = ptQ rr ∧ f 3 = ptQ b3 ∧ f 4 = v ∧ f 14 = .int .i64 (c.hist.length : Int) ∧ f 15 = .int .i64 (k : Int) ∧ StX [] w0 w (blk g (gcQ c ar ap af ah ai cr cp cf ch ci m) 108 :: mapI m encSp es :: packI (vsI c es) :: blk rr [ptQ g, .int .i64 r.1, .int .i64 r.2] 91 :: rowI v 139 2 k cc :: blk b3 [.int .i64 p.close, .int .i64 p.opn] 45 :: L9) ∧ (k ≤ c.hist.length) ∧ zz = c.hist.length - k) _ ⟨_, rfl, 0, _, [], _, rfl, rfl, rfl, rfl, rfl, ((hS.nilrow 139 2).perm (List.perm_append_comm_assoc [_, _] [_, _, _, _] _)), (Nat.zero_le _), rfl⟩ ?_
 clear hS
 rintro f w _ ⟨k, v, cc, es, h0, h3, h4, h14, h15, hS, hkl, rfl⟩
 refine seq <| region <| sv (yLss h15 h14) <| nil <| cwQ <| seq ?_
 refine cond rfl ?_ ?_ <;> intro c16 <;> simp only [BS, ne_eq] at c16
 ·
  have hk1 : k < c.hist.length := by omega
  refine skip <| cwQ <| seq <| block <| seq <| region <| sv (yMove h15) <| vA <| nil <| cwQ <| region <| sv (yMove h4) <| sv (yMove h0) ?_
  refine vM <| sv (yLdBA h3 isAgg45 sizeOf45 (hS.at _) rfl rfl) ?_
  refine scall call43 e3 (c_peak hT hok hS hk1 hp (hh k hk1)) ?_
  clear hS; rintro _ w ⟨x9, y9, es', rfl, hS⟩
  refine sbslice hS underlying54 sizeOf139 rfl zeroValue139 rfl (.cons rfl rfl .nil) rfl fun b23 w hS => ?_
  refine sapp (bytes := 16) (size := 2) (v := v) (m := 1) hS rfl rfl underlying54 ti139 rfl rfl rfl rfl (by decide) (blk_cells (hS.at _)) rfl rfl (by omega) (by omega) ?_; clear hS; intro v24 w hS
  refine vA <| nil <| cwQ <| region <| sv (yAddQ h15 rfl) <| vM <| nil ?_
  exact ⟨_, _, rfl, ⟨k + 1, _, _, _, h0, h3, rfl, h14, rfl, (sbQ hS), (by omega), rfl⟩, by omega⟩
 refine exit <| cwQ <| seq <| region <| sv (yMove h4) <| vA <| nil <| cwQ <| wp_ret <| retQ (res1 rfl rfl) ?_
 obtain ⟨a9, c9, rfl⟩ := row_shape (hS.row v)
 exact ⟨a9, _, c9, _, rfl, by exact sbQ hS⟩
theorem c_Reverse {l : List Span} {a : Option Addr} {nn cap : Nat} {w0 w : World} {L9 : List Bx.Item} (hS : StX [] w0 w (rowI (.slice a nn cap) 93 2 nn ((l).flatMap spanC) :: L9)) (hn : l.length = nn) (hmx : nn ≤ 100) : CE Tryz.prog 22 #[.slice a nn cap] w (fun u w' => ∃ l2 : List Span, u = .tuple #[] ∧ l2.length = nn ∧ StX [] w0 w' (rowI (.slice a nn cap) 93 2 nn ((l2).flatMap spanC) :: L9)) := by
 refine enter func22 rfl ntmps22 rfl ?_
 skip
 refine seq <| region <| vM <| sv (yLen rfl underlying55) <| sv (ySubQ rfl rfl) <| vA <| vA <| nil <| cwQ <| block ?_
 refine loop (fun f w zz => ∃ (i : Nat) (l2 : List Span), f 0 = .slice a nn cap ∧ f 2 = .int .i64 (i : Int) ∧ f 3 = .int .i64 ((nn : Int) - 1 - (i : Int)) ∧ StX [] w0 w ((rowI (.slice a nn cap) 93 2 nn ((l2).flatMap spanC) :: L9)) ∧ (i ≤ nn) ∧ (l2.length = nn) ∧ zz = nn - i) _ ⟨_, rfl, 0, l, rfl, rfl, (by rw [show (nn : Int) - 1 - ((0 : Nat) : Int) = (nn : Int) - 1 by omega]; exact rfl), hS, (Nat.zero_le _), (hn), rfl⟩ ?_
 clear hS
 rintro f w _ ⟨i, l2, h0, h2, h3, hS, hi, hl, rfl⟩
 refine seq <| seq <| region <| sv (yMove h2) <| sv (yMove h3) <| sv (yLss rfl rfl) <| nil <| cwQ ?_
 refine cond rfl ?_ ?_ <;> intro c9 <;> simp only [BS, ne_eq] at c9
 ·
  obtain ⟨gb, rfl, -⟩ := row_get (hS.row (.slice a nn cap)) (by omega)
  obtain ⟨j, hj⟩ : ∃ j : Nat, (nn : Int) - 1 - (i : Int) = (j : Int) := ⟨nn - 1 - i, by omega⟩
  rw [hj] at h3
  refine skip <| cwQ <| seq <| block ?_
  refine region_two mixed [0, 0, 0, 0, 0, 0, 0, 1, 0, 0, 0, 1] 12 12 (fun w => StX [] w0 w (rowI (.slice (some ⟨gb, 0, none⟩) nn cap) 93 2 nn ((l2).flatMap spanC) :: L9)) (fun _ => True) (by kernel_rfl) (fun c a a' w h => by obtain ⟨_, v, hv, _⟩ := h; cases hv) hS (fun _ h => h) (fun _ _ => trivial) ?_
  clear hS; intro w hS
  refine hv0 (fun w => (yMove h0)) <| hv0 (fun w => (yMove h2)) <| hv0 (fun w => (yMove h0)) <| hv0 (fun w => (yMove h3)) <| hv0 (fun w => (yMove h0)) <| hv0 (fun w => (yMove h3)) <| hv0 (fun w => (yIx0 (m := j) rfl rfl runUnderlying55 sizeOf93 (by omega))) <| hv1 (fun w hS => yLdA rfl isAgg93 sizeOf93 (flat_cells0 (enc := spanC) spanC_len (row_at (hS.row (.slice (some ⟨gb, 0, none⟩) nn cap)) rfl (by omega)) (spn_get (l := l2) (i := j) (by omega))) rfl) <| hv0 (fun w => (yMove h0)) <| hv0 (fun w => (yMove h2)) <| hv0 (fun w => (yIx0 (m := i) rfl rfl runUnderlying55 sizeOf93 (by omega))) <| hv1 (fun w hS => yLdA rfl isAgg93 sizeOf93 (flat_cells0 (enc := spanC) spanC_len (row_at (hS.row (.slice (some ⟨gb, 0, none⟩) nn cap)) rfl (by omega)) (spn_get (l := l2) (i := i) (by omega))) rfl) <| hgnil ?_
  show wpR _ _ _ _ _ _ _ _ _ _ _ _
  refine r_step (i := 12) (is := []) (by kernel_rfl) ⟨?_, trivial⟩
  refine ⟨_, rfl, ?_⟩
  refine sv (yIx0 (m := i) rfl rfl runUnderlying55 sizeOf93 (by omega)) <| nil ?_
  refine ⟨⟨fun _ h => h, fun _ h => h⟩, ?_⟩
  show wpR _ _ _ _ _ _ _ _ _ _ _ _
  refine r_step (i := 13) (is := []) (by kernel_rfl) ⟨?_, trivial⟩
  refine ⟨_, rfl, ?_⟩
  refine srst (m := nn) (cap := cap) (sz := 2) (vs := spanC (spn l2 j)) hS rfl rfl sizeOf93 rfl rfl (by omega) rfl ?_; clear hS; intro w hS
  rw [splice_enc spanC_len _ _ _ (by first | omega | (rw [List.length_set]; omega))] at hS
  refine nil ?_
  refine ⟨⟨fun h => absurd h (by decide), fun h => absurd h (by decide)⟩, ?_⟩
  show wpR _ _ _ _ _ _ _ _ _ _ _ _
  refine r_step (i := 14) (is := []) (by kernel_rfl) ⟨?_, trivial⟩
  refine ⟨_, rfl, ?_⟩
  refine sv (yIx0 (m := j) rfl rfl runUnderlying55 sizeOf93 (by omega)) <| nil ?_
  refine ⟨⟨fun _ h => h, fun _ h => h⟩, ?_⟩
  show wpR _ _ _ _ _ _ _ _ _ _ _ _
  refine r_step (i := 15) (is := []) (by kernel_rfl) ⟨?_, trivial⟩
  refine ⟨_, rfl, ?_⟩
  refine srst (m := nn) (cap := cap) (sz := 2) (vs := spanC (spn l2 i)) hS rfl rfl sizeOf93 rfl rfl (by omega) rfl ?_; clear hS; intro w hS
  rw [splice_enc spanC_len _ _ _ (by first | omega | (rw [List.length_set]; omega))] at hS
  refine nil ?_
  refine ⟨⟨fun h => absurd h (by decide), fun h => absurd h (by decide)⟩, ?_⟩
  show wpR _ _ _ _ _ _ _ _ _ _ _ _
  refine r_end (by kernel_rfl) <| cwQ <| region <| sv (yMove h2) <| sv (yAddQ rfl rfl) <| sv (yMove h3) <| sv (ySubQ rfl rfl) <| vA <| vA <| nil ?_
  exact ⟨_, _, rfl, ⟨i + 1, _, h0, rfl, (by rw [show (nn : Int) - 1 - ((i + 1 : Nat) : Int) = (j : Int) - 1 by omega]; exact rfl), hS, (by omega), (by rw [List.length_set, List.length_set]; exact hl), rfl⟩, by omega⟩
 refine exit <| thenOut <| thenOut <| blockIn ?_
 show bodyPost _ _ _ .normal _ _
 refine retN (results_none rfl _ _ _) ?_
 exact ⟨l2, rfl, hl, hS⟩
end Go.Proofs.YtchbdfcbogjhcaaGreatDoor
namespace Bx
open Go Go.RowKit
section
variable {c : Clt}
theorem str_ok (h : ClOk c) {p : Pln} (hs : strC c p = false) : PlnOk c p := by
 by_cases hp : p = neverP
 ·
  exact .inl hp
 ·
  unfold strC at hs
  rw [decide_eq_true hp, Bool.true_and, Bool.or_eq_false_iff, outB_false, outB_false] at hs
  have hf := h.frm
  have hn := h.n
  have hd := h.del
  exact .inr ⟨hs.1, by omega, by omega⟩
theorem inn_hit {k i m : Nat} {p : Pln} {acc : List Span} {s : Span} {X : Option (List Span)} (hI : X = (innK c k p (m + 1) i).map (acc ++ ·)) (h : inC c k p i = some s) : X = (innK c k p m (i + 1)).map ((acc ++ [s]) ++ ·) := by
 rw [hI, innK, h]
 cases innK c k p m (i + 1) <;> simp
theorem inn_miss {k i m : Nat} {p : Pln} {acc : List Span} {X : Option (List Span)} (hI : X = (innK c k p (m + 1) i).map (acc ++ ·)) (h : inC c k p i = none) : X = none := by
 rw [hI, innK, h]; rfl
theorem inn_end {k i : Nat} {p : Pln} {acc : List Span} {X : Option (List Span)} (hI : X = (innK c k p 0 i).map (acc ++ ·)) : X = some acc := by
 rw [hI, innK]; simp
theorem inn_some {k i : Nat} {p : Pln} (h : (inC c k p i).isSome = true) : inC c k p i = some (inS c k p i) := by
 unfold inS
 cases hh : inC c k p i with
 | none => rw [hh] at h; cases h
 | some s => rfl
theorem inn_no {k i : Nat} {p : Pln} (h : ¬ (inC c k p i).isSome = true) : inC c k p i = none := by
 cases hh : inC c k p i with
 | none => rfl
 | some s => rw [hh] at h; exact absurd rfl h
theorem last_none : ∀ {k : Nat}, (∀ z ∈ dnI k, ¬ failC c 0 (planC c z) < 0) → lastK c k = (0, 9)
  | 0, _ => rfl
  | k + 1, h => by
    rw [lastK, if_neg (h k (by rw [dnI]; exact List.mem_cons_self ..))]
    exact last_none fun z hz => h z (by rw [dnI]; exact List.mem_cons_of_mem _ hz)
theorem last_hit : ∀ {k : Nat} {pre : List Int} {i : Int}, (pre ++ [i]) <+: dnI k → (∀ z ∈ pre, ¬ failC c 0 (planC c z) < 0) → failC c 0 (planC c i) < 0 → lastK c k = (frC c + i, 0)
  | 0, pre, y, h, _, _ => by
    have := h.subset (List.mem_append_right _ (List.mem_singleton_self y))
    cases this
  | k + 1, [], y, h, _, hy => by
    rw [dnI] at h
    obtain ⟨r, hr⟩ := h
    have he : y = (k : Int) := by simpa using congrArg List.head? hr
    subst he
    rw [lastK, if_pos hy]
  | k + 1, p :: pre, y, h, hn, hy => by
    rw [dnI, List.cons_append] at h
    obtain ⟨r, hr⟩ := h
    rw [List.cons_append] at hr
    have he : p = (k : Int) := (List.cons.inj hr).1
    have h0 := hn p (List.mem_cons_self ..)
    subst he
    rw [lastK, if_neg h0]
    exact last_hit ⟨r, (List.cons.inj hr).2⟩ (fun z hz => hn z (List.mem_cons_of_mem _ hz)) hy
theorem dec_none {r : Int × Int} : ∀ {k m : Nat}, (∀ z ∈ dnI k, witC c z = true) → decK c r k m = (⟨0, 0⟩, 0, 9)
  | 0, _, _ => rfl
  | k + 1, m, h => by
    rw [decK, if_pos (h k (by rw [dnI]; exact List.mem_cons_self ..))]
    exact dec_none fun z hz => h z (by rw [dnI]; exact List.mem_cons_of_mem _ hz)
theorem dec_hit {r : Int × Int} : ∀ {k m : Nat} {pre : List Int} {i : Int}, (pre ++ [i]) <+: dnI k → (∀ z ∈ pre, witC c z = true) → witC c i = false → decK c r k m = if mayC c r i = true then (planC c i, m + pre.length, 0) else (⟨0, 0⟩, 0, 9)
  | 0, m, pre, y, h, _, _ => by
    have := h.subset (List.mem_append_right _ (List.mem_singleton_self y))
    cases this
  | k + 1, m, [], y, h, _, hy => by
    rw [dnI] at h
    obtain ⟨r, hr⟩ := h
    have he : y = (k : Int) := by simpa using congrArg List.head? hr
    subst he
    rw [decK, if_neg (by rw [hy]; decide)]; rfl
  | k + 1, m, p :: pre, y, h, hn, hy => by
    rw [dnI, List.cons_append] at h
    obtain ⟨r, hr⟩ := h
    rw [List.cons_append] at hr
    have he : p = (k : Int) := (List.cons.inj hr).1
    have h0 := hn p (List.mem_cons_self ..)
    subst he
    rw [decK, if_pos h0, dec_hit (m := m + 1) ⟨r, (List.cons.inj hr).2⟩ (fun z hz => hn z (List.mem_cons_of_mem _ hz)) hy, List.length_cons, show m + 1 + pre.length = m + (pre.length + 1) by omega]
theorem all_snoc {α : Type} {p : α → Prop} {pre : List α} {y : α} (hn : ∀ z ∈ pre, p z) (h : p y) : ∀ z ∈ pre ++ [y], p z := fun z hz => by
 rcases List.mem_append.1 hz with hz | hz
 ·
  exact hn z hz
 ·
  rw [List.mem_singleton.1 hz]; exact h
theorem hold_step {p : Pln} {k : Nat} : (List.range (k + 1)).map (fun k => decide (failC c k p < 0)) = (List.range k).map (fun k => decide (failC c k p < 0)) ++ [decide (failC c k p < 0)] := by
 rw [List.range_succ, List.map_append]; rfl
theorem hold_e {p : Pln} (h : chkE c ≠ 0) : holdR c p = ([], chkE c) := by
 have e : holdE c p = chkE c := if_pos h
 unfold holdR; rw [e, if_pos h]
theorem hold_7 {p : Pln} (h : chkE c = 0) (h2 : strC c p = true) : holdR c p = ([], 7) := by
 have e : holdE c p = 7 := by unfold holdE; rw [if_neg (fun k => k h), if_pos h2]
 unfold holdR; rw [e, if_pos (by decide)]
theorem hold_0 {p : Pln} (h : chkE c = 0) (h2 : strC c p = false) : holdR c p = ((List.range c.hist.length).map (fun k => decide (failC c k p < 0)), 0) := by
 have e : holdE c p = 0 := by unfold holdE; rw [if_neg (fun k => k h), if_neg (by rw [h2]; decide)]
 unfold holdR; rw [e, if_neg (by decide)]
theorem last_e {k : Int} {e : Int} (he : (if chkE c ≠ 0 then chkE c else if outB k 0 (c.hist.length - 1) = true then 4 else chkE (aloneC c k)) = e) (h : e ≠ 0) : lastR c k = (0, e) := by
 subst he
 unfold lastR
 split
 ·
  rfl
 next h1 =>
  split
  ·
   rfl
  next h2 =>
   rw [if_neg h1, if_neg h2] at h
   rw [if_pos h]
theorem last_0 {k : Int} (h : (if chkE c ≠ 0 then chkE c else if outB k 0 (c.hist.length - 1) = true then 4 else chkE (aloneC c k)) = 0) : chkE (aloneC c k) = 0 ∧ lastR c k = lastK (aloneC c k) (lastC (aloneC c k) + 1).toNat := by
 split at h
 next h1 => exact absurd h h1
 next h1 =>
  split at h
  ·
   cases h
  next h2 =>
   refine ⟨h, ?_⟩
   unfold lastR
   rw [if_neg h1, if_neg h2, if_neg (fun k => k h)]
theorem with_ok {r : Int × Int} (h : withE c r = 0) : chkE c = 0 ∧ (1 ≤ r.1 ∧ r.1 ≤ 8) ∧ 0 ≤ r.2 ∧ r.2 ≤ 60 := by
 unfold withE at h
 split at h
 next h1 => exact absurd h h1
 next h1 =>
  split at h
  ·
   cases h
  next h2 =>
   simp only [Bool.not_eq_true, Bool.or_eq_false_iff, outB_false] at h2
   exact ⟨Decidable.not_not.1 h1, h2⟩
theorem dec_e {r : Int × Int} (h : withE c r ≠ 0) : decR c r = (⟨0, 0⟩, 0, withE c r) := by unfold decR; rw [if_pos h]
theorem dec_not {r : Int × Int} (h : withE c r = 0) (h2 : calledC c r = false) : decR c r = (neverP, 0, 0) := by unfold decR; rw [if_neg (fun k => k h), if_neg (by rw [h2]; decide)]
theorem dec_K {r : Int × Int} (h : withE c r = 0) (h2 : calledC c r = true) : decR c r = decK c r (lastC c + 1).toNat 0 := by unfold decR; rw [if_neg (fun k => k h), if_pos h2]
end
end Bx
namespace Go.Proofs.YtchbdfcbogjhcaaGreatDoor
open Go Bx Go.Proofs.Tryz
theorem c_Holds {c : Clt} {ar ap af ah ai : Option Addr} {cr cp cf ch ci : Nat} {p : Pln} {w0 : World} (hT : RClt w0 (ctQ c ar ap af ah ai cr cp cf ch ci) c) : CE Tryz.prog 7 #[.agg (ctQ c ar ap af ah ai cr cp cf ch ci).toArray, .agg (plnC p).toArray] w0 (fun u w' => ∃ v, u = .tuple #[v, .int .i64 (holdR c p).2] ∧ St w0 w' [rowI v 4 1 (holdR c p).1.length ((holdR c p).1.flatMap encB)]) := by
 refine enQ func7 rfl ntmps7 rfl fun hS => ?_
 refine seq <| region ?_
 refine sbox hS rfl rfl fun b2 w hS => ?_
 refine sbox hS rfl rfl fun b3 w hS => ?_
 refine vA <| vA <| nil <| cwQ <| seq <| region <| sv (yLdBA rfl isAgg41 sizeOf41 (hS.at _) rfl rfl) ?_
 refine scall call24 e1 (c_begin5 (hT.ext hS.ext)) ?_
 rintro _ w (⟨he, rfl, hE⟩ | ⟨he, g, m, rfl, hM⟩)
 ·
  replace hS := hS.step hE; clear hE
  refine vM <| sv (yExt rfl rfl) <| sv (yExt rfl rfl) <| vA <| vA <| nil <| cwQ <| seq <| block <| seq <| region <| vM <| sv (yNeq rfl rfl) ?_
  refine vA <| nil <| cwQ ?_
  refine cond rfl ?_ ?_ <;> intro c13 <;> simp only [BS, ne_eq] at c13
  ·
   refine seq <| region <| vM <| vA <| vA <| nil <| cwQ ?_
   refine wp_ret (blockR (thenR ?_))
   refine retQ (res2 rfl rfl rfl) ?_
   have hf := hold_e (p := p) he
   rw [hf]
   exact ⟨_, rfl, (hS.nilrow 4 1).sub (.cons_cons _ (List.nil_sublist _))⟩
  exact absurd c13 he
 replace hS : StX [] w0 w [blk g (gcQ c ar ap af ah ai cr cp cf ch ci m) 108, mapI m encSp [], packI (vsI c []), blk b3 [.int .i64 p.close, .int .i64 p.opn] 45, blk b2 (ctQ c ar ap af ah ai cr cp cf ch ci) 41] := hS.call hM; clear hM
 have hok := cl_ok he
 have hd := hok.del
 have hn := hok.n
 have hf := hok.frm
 have hr := hok.riv.1
 obtain ⟨hB, hFl, hFr, hH, hR⟩ := clt_parts hT
 have hnh := hok.nh
 refine vM <| sv (yExt rfl rfl) <| sv (yExt rfl rfl) <| vA <| vA <| nil <| cwQ <| seq <| block <| seq <| region <| vM <| sv (yNeq rfl rfl) ?_
 refine vA <| nil <| cwQ ?_
 refine cond rfl (fun c13 => ?_) (fun c13 => ?_)
 ·
  exact absurd c13 (by decide)
 refine seq <| region <| vM <| sv (yLdBA rfl isAgg45 sizeOf45 (hS.at _) rfl rfl) ?_
 refine scV hS call25 e2 (c_stranger (hS.at g) hok) fun w hS => ?_
 refine vA <| nil <| cwQ ?_
 refine cond rfl (fun c17 => ?_) (fun c17 => ?_)
 ·
  have hf := hold_7 he c17
  refine seq <| region <| vA <| vA <| nil <| cwQ ?_
  refine wp_ret (blockR (thenR ?_))
  refine retQ (res2 rfl rfl rfl) ?_
  rw [hf]
  exact ⟨_, rfl, (hS.nilrow 4 1).sub (.cons_cons _ (List.nil_sublist _))⟩
 have hpo := str_ok hok c17
 have hf := hold_0 he c17
 refine skip <| cwQ <| seq <| seq <| region <| sv (fa41_2 rfl) <| vL rfl isAgg39 hS rfl <| sv (yLen rfl underlying39) <| vM <| nil <| cwQ <| block <| loop (fun f w zz => ∃ (k : Nat) (v : Value) (es : List ((Int × Int) × Value)), f 3 = ptQ b3 ∧ f 4 = v ∧ f 6 = ptQ g ∧ f 23 = .int .i64 (c.hist.length : Int) ∧ f 24 = .int .i64 (k : Int) ∧ StX [] w0 w (blk g (gcQ c ar ap af ah ai cr cp cf ch ci m) 108 :: mapI m encSp es :: packI (vsI c es) :: rowI v 4 1 k (((List.range k).map (fun k => decide (failC c k p < 0))).flatMap encB) :: blk b3 [.int .i64 p.close, .int .i64 p.opn] 45 :: ([] : List Bx.Item)) ∧ (k ≤ c.hist.length) ∧ zz = c.hist.length - k) _ ⟨_, rfl, 0, _, _, rfl, rfl, rfl, rfl, rfl, (((hS.nilrow 4 1).perm (List.perm_append_comm_assoc [_] [_, _, _] _)).sub (.cons_cons _ (.cons_cons _ (.cons_cons _ (.cons_cons _ (.cons_cons _ (List.nil_sublist _))))))), (Nat.zero_le _), rfl⟩ ?_
 clear hS
 rintro f w _ ⟨k, v, es, h3, h4, h6, h23, h24, hS, hk, rfl⟩
 refine seq <| region <| sv (yLss h24 h23) <| nil <| cwQ <| seq ?_
 refine cond rfl ?_ ?_ <;> intro c25 <;> simp only [BS, ne_eq] at c25
 ·
  have hk1 : k < c.hist.length := by omega
  refine skip <| cwQ <| seq <| block <| seq <| region <| sv (yMove h24) <| vA <| nil <| cwQ <| region <| sv (yMove h4) <| sv (yMove h6) ?_
  refine vM <| sv (yLdBA h3 isAgg45 sizeOf45 (hS.at _) rfl rfl) ?_
  refine scall call26 e3 (c_fails hT hok hS hk1 hpo) ?_
  clear hS; rintro _ w ⟨es', rfl, hS⟩
  refine sv (yLss rfl rfl) ?_
  refine sbslice hS underlying60 sizeOf4 rfl zeroValue4 rfl (.cons rfl rfl .nil) rfl fun b33 w hS => ?_
  refine sapp (bytes := 1) (size := 1) (v := v) (m := 1) hS rfl rfl underlying60 ti4 rfl rfl rfl rfl (by decide) (blk_cells (hS.at _)) rfl rfl (by omega) (by omega) ?_; clear hS; intro v34 w hS
  refine vA <| nil <| cwQ <| region <| sv (yAddQ h24 rfl) <| vM <| nil ?_
  exact ⟨_, _, rfl, ⟨k + 1, _, _, h3, rfl, h6, h23, rfl, (by rw [hold_step, List.flatMap_append]; exact sbQ hS), (by omega), rfl⟩, by omega⟩
 obtain rfl : k = c.hist.length := by omega
 refine exit <| cwQ <| seq <| region <| sv (yMove h4) <| vA <| vA <| nil <| cwQ <| wp_ret <| retQ (res2 rfl rfl rfl) ?_
 rw [hf]
 exact ⟨v, rfl, by rw [List.length_map, List.length_range]; exact sbQ hS⟩
theorem c_Inner {c : Clt} {ar ap af ah ai : Option Addr} {cr cp cf ch ci : Nat} {kk : Int} {p : Pln} {w0 : World} (hT : RClt w0 (ctQ c ar ap af ah ai cr cp cf ch ci) c) : CE Tryz.prog 9 #[.agg (ctQ c ar ap af ah ai cr cp cf ch ci).toArray, .int .i64 kk, .agg (plnC p).toArray] w0 (fun u w' => ∃ v, u = .tuple #[v, .int .i64 (innR c kk p).2] ∧ St w0 w' [rowI v 69 2 ((innR c kk p).1).length (((innR c kk p).1).flatMap spanC)]) := by
 refine enQ func9 rfl ntmps9 rfl fun hS => ?_
 refine seq <| region ?_
 refine sbox hS rfl rfl ?_; clear hS; intro b3 w hS
 refine sbox hS rfl rfl ?_; clear hS; intro b5 w hS
 refine vA <| vA <| nil <| cwQ <| seq <| region <| sv (yLdBA rfl isAgg41 sizeOf41 (hS.at _) rfl rfl) ?_
 refine scall call24 e1 (c_begin5 (hT.ext hS.ext)) ?_
 rintro _ w (⟨he, rfl, hE⟩ | ⟨he, g, m, rfl, hM⟩)
 ·
  replace hS := hS.step hE; clear hE
  refine vM <| sv (yExt rfl rfl) <| sv (yExt rfl rfl) <| vA <| vA <| nil <| cwQ <| seq <| block <| seq <| region <| vM <| sv (yNeq rfl rfl) ?_
  refine vA <| nil <| cwQ ?_
  refine cond rfl ?_ ?_ <;> intro c17 <;> simp only [BS, ne_eq] at c17
  ·
   refine seq <| region <| vM <| vA <| vA <| nil <| cwQ ?_
   refine wp_ret (blockR (thenR ?_))
   refine retQ (res2 rfl rfl rfl) ?_
   have hie : innE c kk p = chkE c := by unfold innE; rw [if_pos he]
   have hf : innR c kk p = ([], chkE c) := by unfold innR; rw [hie, if_pos (by first | exact he | decide)]
   rw [hf]
   exact ⟨_, rfl, (hS.nilrow 69 2).sub (.cons_cons _ (List.nil_sublist _))⟩
  exact absurd c17 he
 replace hS : StX [] w0 w [blk g (gcQ c ar ap af ah ai cr cp cf ch ci m) 108, mapI m encSp [], packI (vsI c []), blk b5 [.int .i64 p.close, .int .i64 p.opn] 45, blk b3 (ctQ c ar ap af ah ai cr cp cf ch ci) 41] := hS.call hM; clear hM
 have hok := cl_ok he
 have hd := hok.del
 have hn := hok.n
 have hf := hok.frm
 have hr := hok.riv.1
 obtain ⟨hB, hFl, hFr, hH, hR⟩ := clt_parts hT
 have hnh := hok.nh
 refine vM <| sv (yExt rfl rfl) <| sv (yExt rfl rfl) <| vA <| vA <| nil <| cwQ <| seq <| block <| seq <| region <| vM <| sv (yNeq rfl rfl) ?_
 refine vA <| nil <| cwQ ?_
 refine cond rfl (fun c17 => ?_) (fun c17 => ?_)
 ·
  exact absurd c17 (by decide)
 refine seq <| region <| vM <| sv (fa41_2 rfl) <| vL rfl isAgg39 hS rfl <| sv (yLen rfl underlying39) <| sv (ySubQ rfl rfl) ?_
 refine scV hS call29 e3 c_lout ?_; clear hS; intro w hS
 refine vA <| nil <| cwQ ?_
 refine cond rfl (fun c21 => ?_) (fun c21 => ?_)
 ·
  refine seq <| region <| vA <| vA <| nil <| cwQ ?_
  refine wp_ret (blockR (thenR ?_))
  refine retQ (res2 rfl rfl rfl) ?_
  have hie : innE c kk p = 4 := by unfold innE; rw [if_neg (fun h => h he), if_pos c21]
  have hf : innR c kk p = ([], 4) := by unfold innR; rw [hie, if_pos (by first | exact he | decide)]
  rw [hf]
  exact ⟨_, rfl, (hS.nilrow 69 2).sub (.cons_cons _ (List.nil_sublist _))⟩
 have hkb := outB_false.1 c21
 obtain ⟨k, rfl⟩ := Int.eq_ofNat_of_zero_le hkb.1
 have hk1 : k < c.hist.length := by omega
 refine seq <| region <| vM <| sv (yLdBA rfl isAgg45 sizeOf45 (hS.at _) rfl rfl) ?_
 refine scV hS call25 e2 (c_stranger (hS.at g) hok) ?_; clear hS; intro w hS
 refine vA <| nil <| cwQ ?_
 refine cond rfl (fun c28 => ?_) (fun c28 => ?_)
 ·
  refine seq <| region <| vA <| vA <| nil <| cwQ ?_
  refine wp_ret (blockR (thenR ?_))
  refine retQ (res2 rfl rfl rfl) ?_
  have hie : innE c (k : Int) p = 7 := by unfold innE; rw [if_neg (fun h => h he), if_neg (by rw [c21]; decide), if_pos c28]
  have hf : innR c (k : Int) p = ([], 7) := by unfold innR; rw [hie, if_pos (by first | exact he | decide)]
  rw [hf]
  exact ⟨_, rfl, (hS.nilrow 69 2).sub (.cons_cons _ (List.nil_sublist _))⟩
 have hpo := str_ok hok c28
 have hie : innE c (k : Int) p = 0 := by unfold innE; rw [if_neg (fun h => h he), if_neg (by rw [c21]; decide), if_neg (by rw [c28]; decide)]
 refine skip <| cwQ <| seq <| seq <| region <| vM <| sv (yNil rfl) <| sv (fa108_2 rfl) <| sv (yLdB rfl isAgg3 (hS.at g) rfl) <| vM <| nil <| cwQ <| block ?_
 refine loop (fun f w zz => ∃ (i : Nat) (v : Value) (acc : List Span) (es : List ((Int × Int) × Value)), f 1 = .int .i64 (k : Int) ∧ f 5 = ptQ b5 ∧ f 6 = v ∧ f 8 = ptQ g ∧ f 35 = .int .i64 (nC c : Int) ∧ f 36 = .int .i64 (i : Int) ∧ StX [] w0 w (blk g (gcQ c ar ap af ah ai cr cp cf ch ci m) 108 :: mapI m encSp es :: packI (vsI c es) :: rowI v 69 2 (acc).length ((acc).flatMap spanC) :: blk b5 [.int .i64 p.close, .int .i64 p.opn] 45 :: ([] : List Bx.Item)) ∧ (i ≤ nC c) ∧ (acc.length = i) ∧ (innK c k p (nC c) 0 = (innK c k p (nC c - i) i).map (acc ++ ·)) ∧ zz = nC c - i) _ ⟨_, rfl, 0, _, [], _, rfl, rfl, rfl, rfl, rfl, rfl, (((hS.nilrow 69 2).perm (List.perm_append_comm_assoc [_] [_, _, _] _)).sub (.cons_cons _ (.cons_cons _ (.cons_cons _ (.cons_cons _ (.cons_cons _ (List.nil_sublist _))))))), (Nat.zero_le _), (rfl), (by rw [Nat.sub_zero]; cases innK c k p (nC c) 0 <;> rfl), rfl⟩ ?_
 clear hS
 rintro f w _ ⟨i, v, acc, es, h1, h5, h6, h8, h35, h36, hS, hil, hal, hI, rfl⟩
 refine seq <| region <| sv (yLss h36 h35) <| nil <| cwQ <| seq ?_
 refine cond rfl ?_ ?_ <;> intro c37 <;> simp only [BS, ne_eq] at c37
 ·
  have hix : i < nC c := by omega
  obtain ⟨mm, hmm⟩ : ∃ q, nC c - i = q + 1 := ⟨nC c - i - 1, by omega⟩
  rw [hmm] at hI
  refine skip <| cwQ <| seq <| block <| seq <| region <| sv (yMove h36) <| vA <| nil <| cwQ <| seq <| region <| sv (yMove h8) ?_
  refine sv (yMove h1) <| sv (yLdBA h5 isAgg45 sizeOf45 (hS.at _) rfl rfl) <| vM ?_
  refine scall call30 (.cons rfl e3) (c_inside hT hok hS hk1 hpo hix) ?_
  clear hS; rintro _ w ⟨es', rfl, hS⟩
  refine vM <| sv (yExt rfl rfl) <| sv (yExt rfl rfl) ?_
  refine salloc hS zeroValue69 rfl ?_; clear hS; intro b10 w hS
  refine sS hS rfl sizeOf69 ?_; clear hS; intro w hS
  refine vA <| nil <| cwQ <| seq <| seq <| region <| vM <| sv (yNot rfl) <| nil <| cwQ ?_
  refine cond rfl (fun c48 => ?_) (fun c48 => ?_)
  ·
   have hfin : innK c k p (nC c) 0 = none := inn_miss hI (inn_no (by simpa using c48))
   refine seq <| region <| vA <| vA <| nil <| cwQ ?_
   refine wp_ret (thenR (blockR (thenR (thenR (blockR (thenR ?_))))))
   refine retQ (res2 rfl rfl rfl) ?_
   have hf : innR c (k : Int) p = ([], 3) := by unfold innR; rw [hie, if_neg (by decide), Int.toNat_natCast, hfin]
   rw [hf]
   exact ⟨_, rfl, (hS.nilrow 69 2).sub (.cons_cons _ (List.nil_sublist _))⟩
  have c48 : (inC c k p i).isSome = true := by simpa using c48
  refine skip <| cwQ <| region <| sv (yMove h6) <| sv (yLdBA rfl isAgg69 sizeOf69 (hS.at _) rfl rfl) ?_
  refine sbslice hS underlying65 sizeOf69 rfl zeroValue69 rfl (.cons rfl rfl .nil) rfl ?_; clear hS; intro b51 w hS
  refine sapp (bytes := 16) (size := 2) (v := v) (m := 1) hS rfl rfl underlying65 ti69 rfl rfl rfl rfl (by decide) (blk_cells (hS.at _)) rfl rfl (by omega) (by omega) ?_; clear hS; intro v52 w hS
  refine vA <| nil <| cwQ <| region <| sv (yAddQ h36 rfl) <| vM <| nil ?_
  exact ⟨_, _, rfl, ⟨i + 1, _, acc ++ [inS c k p i], _, h1, h5, rfl, h8, h35, rfl, (by rw [List.flatMap_append, List.length_append]; exact sbQ hS), (by omega), (by rw [List.length_append, hal]; rfl), (by rw [inn_hit hI (inn_some c48), show mm = nC c - (i + 1) by omega]), rfl⟩, by omega⟩
 have hfin : innK c k p (nC c) 0 = some acc := inn_end (i := i) (by rw [hI, show nC c - i = 0 by omega])
 refine exit <| cwQ <| seq <| region <| sv (yMove h6) <| vA <| vA <| nil <| cwQ <| wp_ret <| retQ (res2 rfl rfl rfl) ?_
 have hf : innR c (k : Int) p = (acc, 0) := by unfold innR; rw [hie, if_neg (by decide), Int.toNat_natCast, hfin]
 rw [hf]
 exact ⟨v, rfl, by exact sbQ hS⟩
theorem c_Last {c : Clt} {ar ap af ah ai : Option Addr} {cr cp cf ch ci : Nat} {k : Int} {w0 : World} (hT : RClt w0 (ctQ c ar ap af ah ai cr cp cf ch ci) c) : CV Tryz.prog 12 #[.agg (ctQ c ar ap af ah ai cr cp cf ch ci).toArray, .int .i64 k] w0 (.tuple #[.int .i64 (lastR c k).1, .int .i64 (lastR c k).2]) := by
 refine enterX func12 rfl ntmps12 rfl ?_
 have hS := St.start w0
 refine seqX <| regionX rfl ?_
 refine sbox hS rfl rfl ?_; clear hS; intro b2 w hS
 refine salloc hS zeroValue3 rfl ?_; clear hS; intro b4 w hS
 refine salloc hS zeroValue49 rfl ?_; clear hS; intro b5 w hS
 refine nil <| cxQ <| seqX <| regionX rfl <| sv (yLdBA rfl isAgg41 sizeOf41 (hS.at _) rfl rfl) <| vM ?_
 refine scall call40 e2 (c_alone5 (hT.ext hS.ext)) ?_
 rintro _ w (⟨he, rfl, hE⟩ | ⟨he, ah2, ch2, g, m, rfl, ⟨hae, hce, hk0, hkl⟩, hM⟩)
 ·
  replace hS := hS.step hE; clear hE
  have hlr := last_e rfl he
  refine vM <| sv (yExt rfl rfl) <| sv (yExt rfl rfl) ?_
  refine salloc hS zeroValue89 rfl ?_; clear hS; intro b6 w hS
  refine sS hS rfl sizeOf89 ?_; clear hS; intro w hS
  refine vA <| nil <| cxQ <| seqX <| seqX <| regionX rfl <| vM <| sv (yNeq rfl rfl) <| nil <| cxQ ?_
  refine condX rfl (fun c16 => ?_) (fun c16 => ?_)
  ·
   simp only [BS, ne_eq] at c16
   refine seqX <| regionX rfl <| vM ?_
   refine sS hS rfl sizeOf3 ?_; clear hS; intro w hS
   refine sS hS rfl sizeOf49 ?_; clear hS; intro w hS
   refine nil <| cxQ ?_
   refine wpIn_ret (thenR ?_)
   refine leafX (resV2 rfl (rc1 rfl isAgg3 (hS.at _) rfl) (rc1 rfl isAgg49 (hS.at _) rfl)) ?_
   exact ⟨by rw [hlr]; rfl, hS.ext⟩
  simp only [BS, ne_eq] at c16
  exact absurd c16 he
 replace hS := hS.call hM; clear hM
 obtain ⟨hc0, hlr⟩ := last_0 he
 replace hS : StX [] w0 w [blk g (gcQ (aloneC c k) ar ap af ah2 ai cr cp cf ch2 ci m) 108, mapI m encSp [], packI (vsI (aloneC c k) []), blk b5 [.int .i64 0] 49, blk b4 [.int .i64 0] 3, blk b2 (ctQ c ar ap af ah ai cr cp cf ch ci) 41] := hS
 have hT2 : RClt w0 (ctQ (aloneC c k) ar ap af ah2 ai cr cp cf ch2 ci) (aloneC c k) := by
  have h := alone_row hT hkl
  rw [Int.toNat_of_nonneg hk0, ← hae, ← hce] at h
  exact h
 clear he hae hce
 generalize aloneC c k = c2 at *
 have hok := cl_ok hc0
 have hd := hok.del
 have hn := hok.n
 have hf := hok.frm
 have hr := hok.riv.1
 obtain ⟨hB, hFl, hFr, hH, hR⟩ := clt_parts hT2
 have hnh := hok.nh
 have hll : lastC c2 ≤ 60 ∧ -31 ≤ lastC c2 := by unfold lastC; omega
 have hql := quiet_le hok
 refine vM <| sv (yExt rfl rfl) <| sv (yExt rfl rfl) ?_
 refine salloc hS zeroValue89 rfl ?_; clear hS; intro b6 w hS
 refine sS hS rfl sizeOf89 ?_; clear hS; intro w hS
 refine vA <| nil <| cxQ <| seqX <| seqX <| regionX rfl <| vM <| sv (yNeq rfl rfl) <| nil <| cxQ ?_
 refine condX rfl (fun c16 => ?_) (fun c16 => ?_)
 ·
  exact absurd c16 (by decide)
 refine skipX <| cxQ <| seqX <| seqX <| regionX rfl <| vL rfl isAgg89 hS rfl ?_
 replace hS : StX [] w0 w (blk b6 [ptQ g] 89 :: blk g (gcQ c2 ar ap af ah2 ai cr cp cf ch2 ci m) 108 :: mapI m encSp [] :: packI (vsI c2 []) :: blk b5 [.int .i64 0] 49 :: blk b4 [.int .i64 0] 3 :: blk b2 (ctQ c ar ap af ah ai cr cp cf ch ci) 41 :: ([] : List Bx.Item)) := hS
 replace hS : StX [] w0 w (blk g (gcQ c2 ar ap af ah2 ai cr cp cf ch2 ci m) 108 :: mapI m encSp [] :: packI (vsI c2 []) :: blk b6 [ptQ g] 89 :: blk b5 [.int .i64 0] 49 :: blk b4 [.int .i64 0] 3 :: blk b2 (ctQ c ar ap af ah ai cr cp cf ch ci) 41 :: ([] : List Bx.Item)) := hS.perm (List.perm_append_comm_assoc [_] [_, _, _] _)
 refine scall call19 e1 c_begins ?_
 rintro _ w ⟨p1, rfl, hM⟩; replace hS := hS.call1 hM; clear hM
 refine nil <| cxQ <| blockX ?_
 refine rangeR (R := [blk p1 [ptQ g] 89]) (L0 := blk g (gcQ c2 ar ap af ah2 ai cr cp cf ch2 ci m) 108 :: mapI m encSp [] :: packI (vsI c2 []) :: blk b6 [ptQ g] 89 :: blk b5 [.int .i64 0] 49 :: blk b4 [.int .i64 0] 3 :: blk b2 (ctQ c ar ap af ah ai cr cp cf ch ci) 41 :: ([] : List Bx.Item)) (ps := [20]) rfl call44 hS (it_begins hok) (fun cc pre L => (cc = none ∧ ∃ es, L = blk g (gcQ c2 ar ap af ah2 ai cr cp cf ch2 ci m) 108 :: mapI m encSp es :: packI (vsI c2 es) :: blk b6 [ptQ g] 89 :: blk b5 [.int .i64 0] 49 :: blk b4 [.int .i64 0] 3 :: blk b2 (ctQ c ar ap af ah ai cr cp cf ch ci) 41 :: ([] : List Bx.Item) ∧ ∀ z ∈ pre, ¬ failC c2 0 (planC c2 z) < 0) ∨ (cc = some .ret ∧ ∃ es i, L = blk g (gcQ c2 ar ap af ah2 ai cr cp cf ch2 ci m) 108 :: mapI m encSp es :: packI (vsI c2 es) :: blk b6 [ptQ g] 89 :: blk b5 [.int .i64 0] 49 :: blk b4 [.int .i64 (frC c2 + i)] 3 :: blk b2 (ctQ c ar ap af ah ai cr cp cf ch ci) 41 :: ([] : List Bx.Item) ∧ lastR c k = (frC c2 + i, 0))) (.inl ⟨rfl, _, rfl, fun _ h => (nomatch h)⟩) (fun _ _ => rfl) (fun pre w L M hcb hS => by
  obtain ⟨-, es, rfl, -⟩ := hcb.resolve_right (fun h => by cases h.1)
  try dsimp only [caQ, naQ] at hS
  exact hS.at g) ?_ ?_ ?_
 ·
  clear hS
  intro yl pre y w L M hpre hcb hS
  obtain ⟨-, es, rfl, hno⟩ := hcb.resolve_right (fun h => by cases h.1)
  try dsimp only [caQ, naQ] at hS
  obtain ⟨j, hj, hyj⟩ := dnI_mem (hpre.subset (List.mem_append_right _ (List.mem_singleton_self y)))
  have hpo := plan_okR hok (i := y) (by omega) (by omega) (by omega)
  refine regionX rfl <| vA <| nil ?_
  refine ⟨_, blk g (gcQ c2 ar ap af ah2 ai cr cp cf ch2 ci m) 108 :: mapI m encSp es :: packI (vsI c2 es) :: blk b6 [ptQ g] 89 :: blk b5 [.int .i64 0] 49 :: blk b4 [.int .i64 0] 3 :: blk b2 (ctQ c ar ap af ah ai cr cp cf ch ci) 41 :: ([] : List Bx.Item), rfl, hS, ?_⟩
  clear hS M; intro M w hS; try dsimp only [caQ, naQ] at hS
  refine blockX <| seqX <| region_anyX (C := (fun w => w.heap[b6]? = some (.cells ([ptQ g] : List Value).toArray 89 (0, 0)))) mixed 0 6 (by kernel_rfl) rfl hS (fun w hS => hS.at b6) ?_
  clear hS; intro w hS
  refine hnil <| fsR 0 rfl (hS.at b6) (fun w hS => yLdB rfl isAgg89 hS rfl) <| fsR 1 rfl (hS.at b6) (fun w hS => yLdB rfl isAgg89 hS rfl) <| fsR 2 rfl (hS.at b6) (fun w hS => yMove rfl) <| awQ <| a1Q 3 rfl ?_
  refine scV hS call23 e2 (c_plan (hS.at g) hok ⟨by omega, by omega⟩) ?_; clear hS; intro w hS
  refine nil ?_
  refine ⟨fun _ => (hS.at b6), ?_⟩
  refine awQ <| awQ <| a1Q 4 rfl ?_
  refine scall call26 e3 (c_fails hT2 hok hS (k := 0) (by omega) hpo) ?_
  clear hS; rintro _ w ⟨es', rfl, hS⟩
  refine nil ?_
  refine ⟨fun _ => (hS.at b6), ?_⟩
  refine awQ <| fsR 5 rfl (hS.at b6) (fun w hS => yLss rfl rfl) <| a_end (by kernel_rfl) <| cxQ ?_
  refine condX rfl (fun c26 => ?_) (fun c26 => ?_)
  ·
   skip
   replace c26 := of_decide_eq_true c26
   rw [last_hit hpre hno c26] at hlr
   refine seqX <| regionX rfl <| vL rfl isAgg89 hS rfl <| sv (yNil rfl) <| sv (fa108_1 rfl) <| sv (yLdB rfl isAgg3 (hS.at g) rfl) <| vM <| sv (yAddQ rfl rfl) ?_
   refine sS hS rfl sizeOf3 ?_; clear hS; intro w hS
   refine sS hS rfl sizeOf49 ?_; clear hS; intro w hS
   refine nil <| cxQ ?_
   refine wpIn_ret (blockR ?_)
   exact ⟨_, .inr ⟨rfl, es', y, rfl, hlr⟩, hS⟩
  skip
  replace c26 := of_decide_eq_false c26
  refine skipX ?_
  exact ⟨_, (.inl ⟨rfl, es', rfl, all_snoc hno c26⟩), hS⟩
 ·
  clear hS
  intro D w L hcb hS
  obtain ⟨-, es, rfl, hno⟩ := hcb.resolve_right (fun h => by cases h.1)
  rw [last_none hno] at hlr
  try dsimp only [caQ, naQ] at hS
  refine cxQ <| seqX <| regionX rfl ?_
  refine sS hS rfl sizeOf3 ?_; clear hS; intro w hS
  refine sS hS rfl sizeOf49 ?_; clear hS; intro w hS
  refine nil <| cxQ <| wpIn_ret ?_
  refine leafD hS (fun w hS => resV2 rfl (rc1 rfl isAgg3 (hS.at _) rfl) (rc1 rfl isAgg49 (hS.at _) rfl)) (fun w hS => ?_)
  exact ⟨by rw [hlr]; rfl, hS.ext⟩
 intro D w L cc pre hcb hS
 obtain ⟨hcc, es, i, rfl, hlr2⟩ := hcb.resolve_left (fun h => by cases h.1)
 obtain rfl := Option.some.inj hcc
 try dsimp only [caQ, naQ] at hS
 refine wpIn_ret (blockR (thenR ?_))
 refine leafD hS (fun w hS => resV2 rfl (rc1 rfl isAgg3 (hS.at _) rfl) (rc1 rfl isAgg49 (hS.at _) rfl)) (fun w hS => ?_)
 exact ⟨by rw [hlr2], hS.ext⟩
theorem c_Decide {c : Clt} {ar ap af ah ai : Option Addr} {cr cp cf ch ci : Nat} {r : Int × Int} {w0 : World} (hT : RClt w0 (ctQ c ar ap af ah ai cr cp cf ch ci) c) : CE Tryz.prog 6 #[.agg (ctQ c ar ap af ah ai cr cp cf ch ci).toArray, .agg [.int .i64 r.1, .int .i64 r.2].toArray] w0 (fun u w' => ∃ a9 n9 c9 a8 c8, u = .tuple #[.agg [.int .i64 (decR c r).1.close, .int .i64 (decR c r).1.opn, .slice a9 n9 c9, .slice a8 (decR c r).2.1 c8].toArray, .int .i64 (decR c r).2.2] ∧ Ext w0 w') := by
 refine enterX func6 rfl ntmps6 rfl ?_
 have hS := St.start w0
 refine seqX <| regionX rfl ?_
 refine sbox hS rfl rfl ?_; clear hS; intro b2 w hS
 refine sbox hS rfl rfl ?_; clear hS; intro b3 w hS
 refine salloc hS zeroValue57 rfl ?_; clear hS; intro b4 w hS
 refine salloc hS zeroValue49 rfl ?_; clear hS; intro b5 w hS
 refine nil <| cxQ <| seqX <| regionX rfl <| sv (yLdBA rfl isAgg41 sizeOf41 (hS.at _) rfl rfl) <| sv (yLdBA rfl isAgg43 sizeOf43 (hS.at _) rfl rfl) ?_
 refine scall call15 e2 (c_with5 (hT.ext hS.ext)) ?_
 rintro _ w (⟨he, rfl, hE⟩ | ⟨he, rr, g, m, rfl, hM⟩)
 ·
  replace hS := hS.step hE; clear hE
  have hdr := dec_e he
  refine vM <| sv (yExt rfl rfl) <| sv (yExt rfl rfl) ?_
  refine salloc hS zeroValue79 rfl ?_; clear hS; intro b6 w hS
  refine sS hS rfl sizeOf79 ?_; clear hS; intro w hS
  refine vA <| nil <| cxQ <| seqX <| seqX <| regionX rfl <| vM <| sv (yNeq rfl rfl) <| nil <| cxQ ?_
  refine condX rfl (fun c22 => ?_) (fun c22 => ?_)
  ·
   simp only [BS, ne_eq] at c22
   refine seqX <| regionX rfl <| sv (yBuild zeroValue57 rfl pl57 .nil rfl) <| vM ?_
   refine sS hS rfl sizeOf57 ?_; clear hS; intro w hS
   refine sS hS rfl sizeOf49 ?_; clear hS; intro w hS
   refine nil <| cxQ ?_
   refine wpIn_ret (thenR ?_)
   refine leafX (resV2 rfl (rc rfl isAgg57 sizeOf57 (hS.at _) rfl rfl) (rc1 rfl isAgg49 (hS.at _) rfl)) ?_
   exact ⟨none, 0, 0, none, 0, by rw [hdr]; rfl, hS.ext⟩
  simp only [BS, ne_eq] at c22
  exact absurd c22 he
 replace hS : StX [] w0 w (blk rr [ptQ g, .int .i64 r.1, .int .i64 r.2] 91 :: blk g (gcQ c ar ap af ah ai cr cp cf ch ci m) 108 :: mapI m encSp [] :: packI (vsI c []) :: blk b5 [.int .i64 0] 49 :: blk b4 [.int .i64 0, .int .i64 0, .slice none 0 0, .slice none 0 0] 57 :: blk b3 [.int .i64 r.1, .int .i64 r.2] 43 :: blk b2 (ctQ c ar ap af ah ai cr cp cf ch ci) 41 :: ([] : List Bx.Item)) := hS.call hM; clear hM
 replace hS : StX [] w0 w (blk g (gcQ c ar ap af ah ai cr cp cf ch ci m) 108 :: mapI m encSp [] :: packI (vsI c []) :: blk rr [ptQ g, .int .i64 r.1, .int .i64 r.2] 91 :: blk b5 [.int .i64 0] 49 :: blk b4 [.int .i64 0, .int .i64 0, .slice none 0 0, .slice none 0 0] 57 :: blk b3 [.int .i64 r.1, .int .i64 r.2] 43 :: blk b2 (ctQ c ar ap af ah ai cr cp cf ch ci) 41 :: ([] : List Bx.Item)) := hS.perm (List.perm_append_comm_assoc [_] [_, _, _] _)
 obtain ⟨hc0, hr1, hr2⟩ := with_ok he
 have hok := cl_ok hc0
 have hd := hok.del
 have hn := hok.n
 have hf := hok.frm
 have hr := hok.riv.1
 obtain ⟨hB, hFl, hFr, hH, hR⟩ := clt_parts hT
 have hnh := hok.nh
 have hll : lastC c ≤ 60 ∧ -31 ≤ lastC c := by unfold lastC; omega
 have hql := quiet_le hok
 have hI1 : I64 r.1 := ⟨by omega, by omega⟩
 have hI2 : Bd r.2 0 60 := hr2
 refine vM <| sv (yExt rfl rfl) <| sv (yExt rfl rfl) ?_
 refine salloc hS zeroValue79 rfl ?_; clear hS; intro b6 w hS
 refine sS hS rfl sizeOf79 ?_; clear hS; intro w hS
 refine vA <| nil <| cxQ <| seqX <| seqX <| regionX rfl <| vM <| sv (yNeq rfl rfl) <| nil <| cxQ ?_
 refine condX rfl (fun c22 => ?_) (fun c22 => ?_)
 ·
  exact absurd c22 (by decide)
 refine skipX <| cxQ <| seqX <| seqX <| regionX rfl <| vL rfl isAgg79 hS rfl ?_
 replace hS : StX [] w0 w (blk b6 [ptQ rr] 79 :: blk g (gcQ c ar ap af ah ai cr cp cf ch ci m) 108 :: mapI m encSp [] :: packI (vsI c []) :: blk rr [ptQ g, .int .i64 r.1, .int .i64 r.2] 91 :: blk b5 [.int .i64 0] 49 :: blk b4 [.int .i64 0, .int .i64 0, .slice none 0 0, .slice none 0 0] 57 :: blk b3 [.int .i64 r.1, .int .i64 r.2] 43 :: blk b2 (ctQ c ar ap af ah ai cr cp cf ch ci) 41 :: ([] : List Bx.Item)) := hS
 replace hS : StX [] w0 w (blk g (gcQ c ar ap af ah ai cr cp cf ch ci m) 108 :: mapI m encSp [] :: packI (vsI c []) :: blk rr [ptQ g, .int .i64 r.1, .int .i64 r.2] 91 :: blk b6 [ptQ rr] 79 :: blk b5 [.int .i64 0] 49 :: blk b4 [.int .i64 0, .int .i64 0, .slice none 0 0, .slice none 0 0] 57 :: blk b3 [.int .i64 r.1, .int .i64 r.2] 43 :: blk b2 (ctQ c ar ap af ah ai cr cp cf ch ci) 41 :: ([] : List Bx.Item)) := hS.perm (List.perm_append_comm_assoc [_] [_, _, _, _] _)
 refine scV hS call16 e1 (c_allowed (hS.at g) (hS.at rr) hok (hT.ext hS.ext) hI1 hI2) ?_; clear hS; intro w hS
 refine vM <| sv (yExt rfl rfl) <| sv (yExt rfl rfl) <| vA <| vA <| nil <| cxQ <| seqX <| regionX rfl <| vM <| sv (yNot rfl) <| nil <| cxQ ?_
 refine condX rfl (fun c31 => ?_) (fun c31 => ?_)
 ·
  have c31 : calledC c r = false := by simpa using c31
  have hdr := dec_not he c31
  refine seqX <| region_anyX (C := (fun w => w.heap[b6]? = some (.cells ([ptQ rr] : List Value).toArray 79 (0, 0)))) mixed 0 7 (by kernel_rfl) rfl hS (fun w hS => hS.at b6) ?_
  clear hS; intro w hS
  refine hnil <| fsR 1 rfl (hS.at b6) (fun w hS => yLdB rfl isAgg79 hS rfl) <| awQ <| a1Q 0 rfl ?_
  refine scV hS call17 .nil c_never ?_; clear hS; intro w hS
  refine nil ?_
  refine ⟨fun _ => (hS.at b6), ?_⟩
  refine awQ <| awQ <| a1Q 2 rfl ?_
  refine scV hS call17 .nil c_never ?_; clear hS; intro w hS
  refine nil ?_
  refine ⟨fun _ => (hS.at b6), ?_⟩
  refine awQ <| awQ <| a1Q 3 rfl ?_
  refine scall call18 e2 (c_peaks hT hok hS (p := neverP) (.inl rfl) (fun _ _ => .inl rfl)) ?_
  clear hS; rintro _ w ⟨a9, n9, c9, es', rfl, hS⟩
  refine nil ?_
  refine ⟨fun _ => (hS.at b6), ?_⟩
  refine awQ <| fsR 4 rfl (hS.at b6) (fun w hS => yBuild zeroValue57 rfl pl57 (.cons rfl rfl (.cons rfl rfl .nil)) rfl) <| awQ <| a1Q 5 rfl ?_
  refine sS hS rfl sizeOf57 ?_; clear hS; intro w hS
  refine nil ?_
  refine ⟨fun _ => (hS.at b6), ?_⟩
  refine awQ <| awQ <| a1Q 6 rfl ?_
  refine sS hS rfl sizeOf49 ?_; clear hS; intro w hS
  refine nil ?_
  refine ⟨fun _ => (hS.at b6), ?_⟩
  refine awQ <| a_end (by kernel_rfl) <| cxQ ?_
  refine wpIn_ret (thenR ?_)
  refine leafX (resV2 rfl (rc rfl isAgg57 sizeOf57 (hS.at _) rfl rfl) (rc1 rfl isAgg49 (hS.at _) rfl)) ?_
  exact ⟨a9, n9, c9, none, 0, by rw [hdr]; rfl, hS.ext⟩
 have c31 : calledC c r = true := by simpa using c31
 have hdK := dec_K he c31
 refine skipX <| cxQ <| seqX <| regionX rfl ?_
 refine salloc hS zeroValue55 rfl ?_; clear hS; intro b10 w hS
 refine nil <| cxQ <| seqX <| seqX <| regionX rfl <| vL rfl isAgg79 hS rfl <| sv (yNil rfl) <| sv (fa91_0 rfl) <| sv (yLdB rfl isAgg89 (hS.at rr) rfl) ?_
 replace hS : StX [] w0 w (blk b10 [.slice none 0 0] 55 :: blk g (gcQ c ar ap af ah ai cr cp cf ch ci m) 108 :: mapI m encSp [] :: packI (vsI c []) :: blk rr [ptQ g, .int .i64 r.1, .int .i64 r.2] 91 :: blk b6 [ptQ rr] 79 :: blk b5 [.int .i64 0] 49 :: blk b4 [.int .i64 0, .int .i64 0, .slice none 0 0, .slice none 0 0] 57 :: blk b3 [.int .i64 r.1, .int .i64 r.2] 43 :: blk b2 (ctQ c ar ap af ah ai cr cp cf ch ci) 41 :: ([] : List Bx.Item)) := hS
 replace hS : StX [] w0 w (rowI (.slice none 0 0) 93 2 0 [] :: blk b10 [.slice none 0 0] 55 :: blk g (gcQ c ar ap af ah ai cr cp cf ch ci m) 108 :: mapI m encSp [] :: packI (vsI c []) :: blk rr [ptQ g, .int .i64 r.1, .int .i64 r.2] 91 :: blk b6 [ptQ rr] 79 :: blk b5 [.int .i64 0] 49 :: blk b4 [.int .i64 0, .int .i64 0, .slice none 0 0, .slice none 0 0] 57 :: ([] : List Bx.Item)) := (hS.nilrow 93 2).sub (.cons_cons _ (.cons_cons _ (.cons_cons _ (.cons_cons _ (.cons_cons _ (.cons_cons _ (.cons_cons _ (.cons_cons _ (.cons_cons _ (List.nil_sublist _))))))))))
 replace hS : StX [] w0 w (blk g (gcQ c ar ap af ah ai cr cp cf ch ci m) 108 :: mapI m encSp [] :: packI (vsI c []) :: blk rr [ptQ g, .int .i64 r.1, .int .i64 r.2] 91 :: rowI (.slice none 0 0) 93 2 0 [] :: blk b10 [.slice none 0 0] 55 :: blk b6 [ptQ rr] 79 :: blk b5 [.int .i64 0] 49 :: blk b4 [.int .i64 0, .int .i64 0, .slice none 0 0, .slice none 0 0] 57 :: ([] : List Bx.Item)) := hS.perm (List.perm_append_comm_assoc [_, _] [_, _, _, _] _)
 refine scall call19 e1 c_begins ?_
 rintro _ w ⟨p1, rfl, hM⟩; replace hS := hS.call1 hM; clear hM
 refine nil <| cxQ <| blockX ?_
 refine rangeR (R := [blk p1 [ptQ g] 89]) (L0 := blk g (gcQ c ar ap af ah ai cr cp cf ch ci m) 108 :: mapI m encSp [] :: packI (vsI c []) :: blk rr [ptQ g, .int .i64 r.1, .int .i64 r.2] 91 :: rowI (.slice none 0 0) 93 2 0 [] :: blk b10 [.slice none 0 0] 55 :: blk b6 [ptQ rr] 79 :: blk b5 [.int .i64 0] 49 :: blk b4 [.int .i64 0, .int .i64 0, .slice none 0 0, .slice none 0 0] 57 :: ([] : List Bx.Item)) (ps := [42]) rfl call44 hS (it_begins hok) (fun cc pre L => (cc = none ∧ ∃ es al cl l, L = blk g (gcQ c ar ap af ah ai cr cp cf ch ci m) 108 :: mapI m encSp es :: packI (vsI c es) :: blk rr [ptQ g, .int .i64 r.1, .int .i64 r.2] 91 :: rowI (.slice al l.length cl) 93 2 l.length (l.flatMap spanC) :: blk b10 [.slice al l.length cl] 55 :: blk b6 [ptQ rr] 79 :: blk b5 [.int .i64 0] 49 :: blk b4 [.int .i64 0, .int .i64 0, .slice none 0 0, .slice none 0 0] 57 :: ([] : List Bx.Item) ∧ (l : List Span).length = pre.length ∧ ∀ z ∈ pre, witC c z = true) ∨ (cc = some .ret ∧ ∃ (p : Pln) (a9 : Option Addr) (n9 c9 : Nat) (a8 : Option Addr) (n8 c8 : Nat) (e : Int), L = blk b5 [.int .i64 e] 49 :: blk b4 [.int .i64 p.close, .int .i64 p.opn, .slice a9 n9 c9, .slice a8 n8 c8] 57 :: ([] : List Bx.Item) ∧ decR c r = (p, n8, e))) (.inl ⟨rfl, _, none, 0, [], rfl, rfl, fun _ h => (nomatch h)⟩) (fun _ _ => rfl) (fun pre w L M hcb hS => by
  obtain ⟨-, es, al, cl, l, rfl, -⟩ := hcb.resolve_right (fun h => by cases h.1)
  try dsimp only [caQ, naQ] at hS
  exact hS.at g) ?_ ?_ ?_
 ·
  clear hS
  intro yl pre y w L M hpre hcb hS
  obtain ⟨-, es, al, cl, l, rfl, hll2, hno⟩ := hcb.resolve_right (fun h => by cases h.1)
  try dsimp only [caQ, naQ] at hS
  obtain ⟨j, hj, hyj, hpl⟩ := dnI_at hpre
  have hwi : 0 ≤ y ∧ y ≤ lastC c := by omega
  have hpo := plan_okR hok hwi.1 hwi.2 (by omega)
  refine regionX rfl <| vA <| nil ?_
  refine ⟨_, blk g (gcQ c ar ap af ah ai cr cp cf ch ci m) 108 :: mapI m encSp es :: packI (vsI c es) :: blk rr [ptQ g, .int .i64 r.1, .int .i64 r.2] 91 :: rowI (.slice al l.length cl) 93 2 l.length (l.flatMap spanC) :: blk b10 [.slice al l.length cl] 55 :: blk b6 [ptQ rr] 79 :: blk b5 [.int .i64 0] 49 :: blk b4 [.int .i64 0, .int .i64 0, .slice none 0 0, .slice none 0 0] 57 :: ([] : List Bx.Item), rfl, hS, ?_⟩
  clear hS M; intro M w hS; try dsimp only [caQ, naQ] at hS
  refine blockX <| seqX <| regionX rfl <| vL rfl isAgg79 hS rfl <| vM ?_
  refine scall call20 e2 (c_witness hT hok hS hwi) ?_
  clear hS; rintro _ w ⟨hx, ax, es', rfl, hS⟩
  refine vM <| sv (yExt rfl rfl) <| sv (yExt rfl rfl) ?_
  refine salloc hS zeroValue93 rfl ?_; clear hS; intro b12 w hS
  refine sS hS rfl sizeOf93 ?_; clear hS; intro w hS
  refine vA <| nil <| cxQ <| seqX <| blockX <| seqX <| regionX rfl <| vM <| vA <| nil <| cxQ ?_
  refine condX rfl (fun c49 => ?_) (fun c49 => ?_)
  ·
   skip
   refine seqX <| regionX rfl <| vL rfl isAgg55 hS rfl <| sv (yLdBA rfl isAgg93 sizeOf93 (hS.at _) rfl rfl) ?_
   refine sbslice hS underlying55 sizeOf93 rfl zeroValue93 rfl (.cons rfl rfl .nil) rfl ?_; clear hS; intro b53 w hS
   refine sapp (bytes := 16) (size := 2) (v := (.slice al l.length cl)) (m := 1) hS rfl rfl underlying55 ti93 rfl rfl rfl rfl (by decide) (blk_cells (hS.at _)) rfl rfl (by omega) (by omega) ?_; clear hS; intro v54 w hS
   obtain ⟨al2, cl2, rfl⟩ := row_shape (hS.row v54)
   refine sS hS rfl sizeOf55 ?_; clear hS; intro w hS
   refine nil <| cxQ <| exitX ?_
   rw [show l.length + 1 = (l ++ [(⟨hx, ax⟩ : Span)]).length by simp] at hS
   exact ⟨_, (.inl ⟨rfl, es', al2, cl2, l ++ [⟨hx, ax⟩], rfl, by rw [List.length_append, List.length_append, hll2]; rfl, all_snoc hno c49⟩), (by rw [List.flatMap_append]; exact sbQ hS)⟩
  skip
  refine seqX <| regionX rfl <| vL rfl isAgg79 hS rfl <| vM ?_
  refine scV hS call21 e2 (c_may (hS.at g) (hS.at rr) hok (hT.ext hS.ext) hI1 hI2) ?_; clear hS; intro w hS
  refine sv (yNot rfl) <| vA <| nil <| cxQ ?_
  refine condX rfl (fun c55 => ?_) (fun c55 => ?_)
  ·
   have c55 : mayC c r y = false := by simpa using c55
   have hdr := hdK.trans (dec_hit hpre hno c49)
   rw [if_neg (by rw [c55]; decide)] at hdr
   refine seqX <| regionX rfl <| sv (yBuild zeroValue57 rfl pl57 .nil rfl) ?_
   refine sS hS rfl sizeOf57 ?_; clear hS; intro w hS
   refine sS hS rfl sizeOf49 ?_; clear hS; intro w hS
   refine nil <| cxQ ?_
   refine wpIn_ret (blockR (thenR (blockR ?_)))
   exact ⟨_, .inr ⟨rfl, ⟨0, 0⟩, none, 0, 0, none, 0, 0, 9, rfl, hdr⟩, by exact sbQ hS⟩
  have c55 : mayC c r y = true := by simpa using c55
  have hdr := hdK.trans (dec_hit hpre hno c49)
  rw [if_pos c55, Nat.zero_add, ← hll2] at hdr
  refine skipX <| cxQ <| seqX <| regionX rfl <| vL rfl isAgg55 hS rfl ?_
  refine scall call22 e1 (c_Reverse (StX.front (A := [_, _, _, _, _]) hS) rfl (by omega)) ?_
  clear hS; rintro _ w ⟨l2, rfl, hl2, hS⟩
  replace hS : StX [] w0 w (blk g (gcQ c ar ap af ah ai cr cp cf ch ci m) 108 :: mapI m encSp es' :: packI (vsI c es') :: blk rr [ptQ g, .int .i64 r.1, .int .i64 r.2] 91 :: rowI (.slice al l.length cl) 93 2 l.length (l2.flatMap spanC) :: blk b12 [.int .i64 hx, .int .i64 ax] 93 :: blk b10 [.slice al l.length cl] 55 :: blk b6 [ptQ rr] 79 :: blk b5 [.int .i64 0] 49 :: blk b4 [.int .i64 0, .int .i64 0, .slice none 0 0, .slice none 0 0] 57 :: M) := hS.perm (List.perm_append_comm_assoc [_, _] [_, _, _, _] _)
  refine nil <| cxQ <| seqX <| regionX rfl <| vL rfl isAgg79 hS rfl <| sv (yNil rfl) <| sv (fa91_0 rfl) <| sv (yLdB rfl isAgg89 (hS.at rr) rfl) <| vM ?_
  refine scV hS call23 e2 (c_plan (hS.at g) hok ⟨by omega, by omega⟩) ?_; clear hS; intro w hS
  refine salloc hS zeroValue45 rfl ?_; clear hS; intro b14 w hS
  refine sS hS rfl sizeOf45 ?_; clear hS; intro w hS
  refine nil <| cxQ <| seqX <| region_anyX (C := (fun w => w.heap[b14]? = some (.cells ([.int .i64 (planC c y).close, .int .i64 (planC c y).opn] : List Value).toArray 45 (0, 0)) ∧ w.heap[b6]? = some (.cells ([ptQ rr] : List Value).toArray 79 (0, 0)) ∧ w.heap[b10]? = some (.cells ([.slice al l.length cl] : List Value).toArray 55 (0, 0)))) mixed 0 8 (by kernel_rfl) rfl hS (fun w hS => ⟨hS.at b14, hS.at b6, hS.at b10⟩) ?_
  clear hS; intro w hS
  refine hnil <| fsR 0 rfl ⟨hS.at b14, hS.at b6, hS.at b10⟩ (fun w hS => yLdBA rfl isAgg45 sizeOf45 hS.1 rfl rfl) <| fsR 1 rfl ⟨hS.at b14, hS.at b6, hS.at b10⟩ (fun w hS => yLdB rfl isAgg79 hS.2.1 rfl) <| fsR 2 rfl ⟨hS.at b14, hS.at b6, hS.at b10⟩ (fun w hS => yLdBA rfl isAgg45 sizeOf45 hS.1 rfl rfl) <| fsR 4 rfl ⟨hS.at b14, hS.at b6, hS.at b10⟩ (fun w hS => yLdB rfl isAgg55 hS.2.2 rfl) <| awQ <| a1Q 3 rfl ?_
  refine scall call18 e2 (c_peaks hT hok (hS.perm (List.perm_append_comm_assoc [_] [_, _, _, _] _)) (p := planC c y) hpo (fun k hk => .inr (wit_all c49 k hk))) ?_
  rintro _ w ⟨a9, n9, c9, es2, rfl, hM⟩; clear hS; have hS : StX [] w0 w (blk g (gcQ c ar ap af ah ai cr cp cf ch ci m) 108 :: mapI m encSp es2 :: packI (vsI c es2) :: blk rr [ptQ g, .int .i64 r.1, .int .i64 r.2] 91 :: blk b14 [.int .i64 (planC c y).close, .int .i64 (planC c y).opn] 45 :: rowI (.slice al l.length cl) 93 2 l.length (l2.flatMap spanC) :: blk b12 [.int .i64 hx, .int .i64 ax] 93 :: blk b10 [.slice al l.length cl] 55 :: blk b6 [ptQ rr] 79 :: blk b5 [.int .i64 0] 49 :: blk b4 [.int .i64 0, .int .i64 0, .slice none 0 0, .slice none 0 0] 57 :: M) := hM; clear hM
  refine nil ?_
  refine ⟨fun _ => ⟨hS.at b14, hS.at b6, hS.at b10⟩, ?_⟩
  refine awQ <| fsR 5 rfl ⟨hS.at b14, hS.at b6, hS.at b10⟩ (fun w hS => yBuild zeroValue57 rfl pl57 (.cons rfl rfl (.cons rfl rfl (.cons rfl rfl .nil))) rfl) <| awQ <| a1Q 6 rfl ?_
  refine sS hS rfl sizeOf57 ?_; clear hS; intro w hS
  refine nil ?_
  refine ⟨fun _ => ⟨hS.at b14, hS.at b6, hS.at b10⟩, ?_⟩
  refine awQ <| awQ <| a1Q 7 rfl ?_
  refine sS hS rfl sizeOf49 ?_; clear hS; intro w hS
  refine nil ?_
  refine ⟨fun _ => ⟨hS.at b14, hS.at b6, hS.at b10⟩, ?_⟩
  refine awQ <| a_end (by kernel_rfl) <| cxQ ?_
  refine wpIn_ret (blockR ?_)
  exact ⟨_, .inr ⟨rfl, planC c y, a9, n9, c9, al, l.length, cl, 0, rfl, hdr⟩, by exact sbQ hS⟩
 ·
  clear hS
  intro D w L hcb hS
  obtain ⟨-, es, al, cl, l, rfl, -, hno⟩ := hcb.resolve_right (fun h => by cases h.1)
  have hdr := hdK.trans (dec_none hno)
  try dsimp only [caQ, naQ] at hS
  refine cxQ <| seqX <| regionX rfl <| sv (yBuild zeroValue57 rfl pl57 .nil rfl) ?_
  refine sS hS rfl sizeOf57 ?_; clear hS; intro w hS
  refine sS hS rfl sizeOf49 ?_; clear hS; intro w hS
  refine nil <| cxQ <| wpIn_ret ?_
  refine leafD hS (fun w hS => resV2 rfl (rc rfl isAgg57 sizeOf57 (hS.at _) rfl rfl) (rc1 rfl isAgg49 (hS.at _) rfl)) (fun w hS => ?_)
  exact ⟨none, 0, 0, none, 0, by rw [hdr]; rfl, hS.ext⟩
 intro D w L cc pre hcb hS
 obtain ⟨hcc, p, a9, n9, c9, a8, n8, c8, e, rfl, hdr⟩ := hcb.resolve_left (fun h => by cases h.1)
 obtain rfl := Option.some.inj hcc
 try dsimp only [caQ, naQ] at hS
 refine wpIn_ret (blockR (thenR ?_))
 refine leafD hS (fun w hS => resV2 rfl (rc rfl isAgg57 sizeOf57 (hS.at _) rfl rfl) (rc1 rfl isAgg49 (hS.at _) rfl)) (fun w hS => ?_)
 exact ⟨a9, n9, c9, a8, c8, by rw [hdr]; rfl, hS.ext⟩
end Go.Proofs.YtchbdfcbogjhcaaGreatDoor
namespace Bx
open Go Go.RowKit
def exB : Bas := ⟨[⟨-1000, 0⟩, ⟨0, 1000000⟩, ⟨2000, 5000000⟩], 100, 3000, 500, []⟩
def exCl : Clt := ⟨exB, [], [⟨10, [0, 500, 1500, 2500, 1500, 500]⟩, ⟨10, [0, 0, 0, 0, 0, 0]⟩], [60000, 60000, 60000, 60000, 60000, 60000], 0, 800, 1⟩
theorem exl_0 : lastR exCl 0 = (10, 0) := by decide +kernel
theorem exl_2 : lastR exCl 2 = (0, 4) := by decide +kernel
theorem exd : decR exCl (1, 3) = (⟨10, 15⟩, 4, 0) := by decide +kernel
theorem exb_rs {w : World} {rv : Value} (hr : Sl w 2 RBrow rv exB.rows) : RBas w [rv, .int .i64 100, .int .i64 3000, .int .i64 500, .slice none 0 0] exB := ⟨_, _, rfl, hr, by decide, by decide, by decide, sl_none⟩
theorem exc_rs {w : World} {rv hv iv : Value} (hr : Sl w 2 RBrow rv exB.rows) (hh : Sl w 2 RSer hv exCl.hist) (hi : Sl w 1 RInt iv exCl.river) : RClt w [rv, .int .i64 100, .int .i64 3000, .int .i64 500, .slice none 0 0, .slice none 0 0, hv, iv, .int .i64 0, .int .i64 800, .int .i64 1] exCl :=
 ⟨_, _, _, _, _, rfl, exb_rs hr, sl_none, (by unfold Room; decide), hh, hi, by decide, by decide, by decide⟩
end Bx
namespace Go.Proofs.YtchbdfcbogjhcaaGreatDoor
open Go Bx Go.Proofs.Tryz
theorem c_BasinE {w0 : World} : CE Tryz.prog 41 #[] w0 (fun u w' => ∃ b4 b7 T4, u = .agg [.slice (some ⟨b4, 0, none⟩) 3 3, .int .i64 100, .int .i64 3000, .int .i64 500, .slice (some ⟨b7, 0, none⟩) 2 2].toArray ∧ St w0 w' [blk b4 [.int .i64 (-1000), .int .i64 0, .int .i64 0, .int .i64 1000000, .int .i64 2000, .int .i64 5000000] T4]) := by
 refine enQ func41 rfl ntmps41 rfl fun hS => ?_
 refine seq <| region ?_
 refine salloc hS zeroValue38 rfl fun b0 w hS => ?_
 refine nil <| cwQ <| seq <| region <| sv (yBuild zeroValue171 rfl pl171 (.cons rfl rfl .nil) rfl) <| sv (yBuild zeroValue171 rfl pl171 (.cons rfl rfl .nil) rfl) <| sv (yBuild zeroValue171 rfl pl171 (.cons rfl rfl (.cons rfl rfl .nil)) rfl) ?_
 refine sbslice hS underlying35 sizeOf171 rfl zeroValue171 rfl (.cons rfl rfl (.cons rfl rfl (.cons rfl rfl .nil))) rfl fun b4 w hS => ?_
 refine sv (yBuild zeroValue173 rfl pl173 (.cons rfl rfl (.cons rfl rfl (.cons rfl rfl (.cons rfl rfl .nil)))) rfl) <| sv (yBuild zeroValue173 rfl pl173 (.cons rfl rfl (.cons rfl rfl (.cons rfl rfl (.cons rfl rfl .nil)))) rfl) ?_
 refine sbslice hS underlying36 sizeOf173 rfl zeroValue173 rfl (.cons rfl rfl (.cons rfl rfl .nil)) rfl fun b7 w hS => ?_
 refine sv (yBuild zeroValue38 rfl pl38 (.cons rfl rfl (.cons rfl rfl (.cons rfl rfl (.cons rfl rfl (.cons rfl rfl .nil))))) rfl) ?_
 refine sS hS rfl sizeOf38 fun w hS => ?_
 refine nil <| cwQ <| wp_ret <| retQ (resV1 rfl (rc rfl isAgg38 sizeOf38 (hS.at b0) rfl rfl)) ?_
 exact ⟨b4, b7, _, rfl, hS.sub (.cons _ (.cons_cons _ (List.nil_sublist _)))⟩
theorem task_rd {w : World} {b4 T4 b5 T5 b7 T7 b9 T9 b10 T10 : Nat} (h4 : w.heap[b4]? = some (.cells ([.int .i64 (-1000), .int .i64 0, .int .i64 0, .int .i64 1000000, .int .i64 2000, .int .i64 5000000] : List Value).toArray T4 (0, 0))) (h5 : w.heap[b5]? = some (.cells ([.int .i64 0, .int .i64 500, .int .i64 1500, .int .i64 2500, .int .i64 1500, .int .i64 500] : List Value).toArray T5 (0, 0)))
  (h7 : w.heap[b7]? = some (.cells ([.int .i64 0, .int .i64 0, .int .i64 0, .int .i64 0, .int .i64 0, .int .i64 0] : List Value).toArray T7 (0, 0))) (h9 : w.heap[b9]? = some (.cells ([.int .i64 10, .slice (some ⟨b5, 0, none⟩) 6 6, .int .i64 10, .slice (some ⟨b7, 0, none⟩) 6 6] : List Value).toArray T9 (0, 0)))
  (h10 : w.heap[b10]? = some (.cells ([.int .i64 60000, .int .i64 60000, .int .i64 60000, .int .i64 60000, .int .i64 60000, .int .i64 60000] : List Value).toArray T10 (0, 0))) :
  RClt w [.slice (some ⟨b4, 0, none⟩) 3 3, .int .i64 100, .int .i64 3000, .int .i64 500, .slice none 0 0, .slice none 0 0, .slice (some ⟨b9, 0, none⟩) 2 2, .slice (some ⟨b10, 0, none⟩) 6 6, .int .i64 0, .int .i64 800, .int .i64 1] exCl := by
 have hh := (show Sl w 2 RSer (.slice (some ⟨b9, 0, none⟩) 2 2) (exCl.hist : List Ser) from sl_of_blk h9 (css := [[.int .i64 10, .slice (some ⟨b5, 0, none⟩) 6 6], [.int .i64 10, .slice (some ⟨b7, 0, none⟩) 6 6]]) (l := (exCl.hist : List Ser)) rfl ⟨rfl, ⟨_, rfl, by decide, (ints_sl (l := [0, 500, 1500, 2500, 1500, 500]) h5 (by decide) (by decide))⟩, rfl, ⟨_, rfl, by decide, (ints_sl (l := [0, 0, 0, 0, 0, 0]) h7 (by decide) (by decide))⟩, trivial⟩ (by decide) rfl)
 exact exc_rs (show Sl w 2 RBrow (.slice (some ⟨b4, 0, none⟩) 3 3) (exB.rows : List BRow) from sl_of_blk h4 (css := [[.int .i64 (-1000), .int .i64 0], [.int .i64 0, .int .i64 1000000], [.int .i64 2000, .int .i64 5000000]]) (l := (exB.rows : List BRow)) rfl ⟨rfl, ⟨rfl, by decide, by decide⟩, rfl, ⟨rfl, by decide, by decide⟩, rfl, ⟨rfl, by decide, by decide⟩, trivial⟩ (by decide) rfl) hh (ints_sl (l := [60000, 60000, 60000, 60000, 60000, 60000]) h10 (by decide) (by decide))
theorem c_TaskE {w0 : World} : CE Tryz.prog 13 #[] w0 (fun u w' => ∃ ar cr ah ch ai ci, u = .agg [.slice ar 3 cr, .int .i64 100, .int .i64 3000, .int .i64 500, .slice none 0 0, .slice none 0 0, .slice ah 2 ch, .slice ai 6 ci, .int .i64 0, .int .i64 800, .int .i64 1].toArray ∧ RClt w' [.slice ar 3 cr, .int .i64 100, .int .i64 3000, .int .i64 500, .slice none 0 0, .slice none 0 0, .slice ah 2 ch, .slice ai 6 ci, .int .i64 0, .int .i64 800, .int .i64 1] exCl ∧ Ext w0 w') := by
 refine enQ func13 rfl ntmps13 rfl fun hS => ?_
 refine seq <| region ?_
 refine salloc hS zeroValue41 rfl fun b0 w hS => ?_
 refine nil <| cwQ <| seq <| region ?_
 refine scall call41 .nil c_BasinE ?_
 rintro _ w ⟨b4, bb7, T4, rfl, hM⟩; replace hS := hS.call1 hM; clear hM
 refine salloc hS zeroValue38 rfl fun b1 w hS => ?_
 refine sS hS rfl sizeOf38 fun w hS => ?_
 refine nil <| cwQ <| seq <| region <| sv (fa38_4 rfl) ?_
 refine sS hS rfl sizeOf36 fun w hS => ?_
 refine nil <| cwQ <| seq ?_
 refine rmQ (fun w => w.heap[b1]? = some (.cells ([.slice (some ⟨b4, 0, none⟩) 3 3, .int .i64 100, .int .i64 3000, .int .i64 500, .slice none 0 0] : List Value).toArray 38 (0, 0))) (fun _ => True) [] [] mixed hS ?_; clear hS; intro w hS
 refine mq 1 0 [] (by kernel_rfl) rfl (hS.at b1) (fun w hS => yLdBA rfl isAgg38 sizeOf38 hS rfl rfl) ?_
 refine ms (i := 1) (is := [3, 6]) (by kernel_rfl) ⟨⟨_, rfl, ?_⟩, ⟨_, rfl, ?_⟩, ⟨_, rfl, ?_⟩, trivial⟩
 ·
  refine sbslice hS underlying30 sizeOf3 rfl zeroValue3 rfl (.cons rfl rfl (.cons rfl rfl (.cons rfl rfl (.cons rfl rfl (.cons rfl rfl (.cons rfl rfl .nil)))))) rfl fun b5 w hS => ?_
  refine nil <| nnQ (hS.at b1) <| mw <| mQ 2 rfl (fun w hS => yBuild zeroValue32 rfl pl32 (.cons rfl rfl (.cons rfl rfl .nil)) rfl) ?_
  refine ms (i := 3) (is := [6]) (by kernel_rfl) ⟨⟨_, rfl, ?_⟩, ⟨_, rfl, ?_⟩, trivial⟩
  ·
   refine smake (bytes := 8) (zs := [.int .i64 0]) (m := 6) hS rfl rfl underlying30 ti3 rfl rfl rfl rfl rfl (by decide) (by decide) ?_; clear hS; intro b7 w hS
   refine nil <| nnQ (hS.at b1) <| mw <| mQ 4 rfl (fun w hS => yBuild zeroValue32 rfl pl32 (.cons rfl rfl (.cons rfl rfl .nil)) rfl) ?_
   refine ms (i := 5) (is := [6]) (by kernel_rfl) ⟨⟨_, rfl, ?_⟩, ⟨_, rfl, ?_⟩, trivial⟩
   ·
    refine sbslice hS underlying39 sizeOf32 rfl zeroValue32 rfl (.cons rfl rfl (.cons rfl rfl .nil)) rfl fun b9 w hS => ?_
    refine nil <| nnQ (hS.at b1) <| mw <| m1Q 6 rfl ?_
    refine sbslice hS underlying30 sizeOf3 rfl zeroValue3 rfl (.cons rfl rfl (.cons rfl rfl (.cons rfl rfl (.cons rfl rfl (.cons rfl rfl (.cons rfl rfl .nil)))))) rfl fun b10 w hS => ?_
    refine nil <| nnQ (hS.at b1) <| mw <| mQ 7 rfl (fun w hS => yBuild (r := [.slice (some ⟨b4, 0, none⟩) 3 3, .int .i64 100, .int .i64 3000, .int .i64 500, .slice none 0 0, .slice none 0 0, .slice (some ⟨b9, 0, none⟩) 2 2, .slice (some ⟨b10, 0, none⟩) 6 6, .int .i64 0, .int .i64 800, .int .i64 1]) zeroValue41 rfl pl41 (.cons rfl rfl (.cons rfl rfl (.cons rfl rfl (.cons rfl rfl (.cons rfl rfl .nil))))) (by kernel_rfl)) <| m1Q 8 rfl ?_
    refine sS hS rfl sizeOf41 fun w hS => ?_
    refine nil <| nnQ (hS.at b1) <| mw <| me (by kernel_rfl) <| cwQ <| wp_ret <| retQ (resV1 rfl (rc rfl isAgg41 sizeOf41 (hS.at b0) rfl rfl)) ?_
    exact ⟨_, _, _, _, _, _, rfl, task_rd (hS.at b4) (hS.at b5) (hS.at b7) (hS.at b9) (hS.at b10), hS.ext⟩
   refine sbslice hS underlying30 sizeOf3 rfl zeroValue3 rfl (.cons rfl rfl (.cons rfl rfl (.cons rfl rfl (.cons rfl rfl (.cons rfl rfl (.cons rfl rfl .nil)))))) rfl fun b10 w hS => ?_
   refine nil <| nnQ (hS.at b1) <| mw <| m1Q 5 rfl ?_
   refine sbslice hS underlying39 sizeOf32 rfl zeroValue32 rfl (.cons rfl rfl (.cons rfl rfl .nil)) rfl fun b9 w hS => ?_
   refine nil <| nnQ (hS.at b1) <| mw <| mQ 7 rfl (fun w hS => yBuild (r := [.slice (some ⟨b4, 0, none⟩) 3 3, .int .i64 100, .int .i64 3000, .int .i64 500, .slice none 0 0, .slice none 0 0, .slice (some ⟨b9, 0, none⟩) 2 2, .slice (some ⟨b10, 0, none⟩) 6 6, .int .i64 0, .int .i64 800, .int .i64 1]) zeroValue41 rfl pl41 (.cons rfl rfl (.cons rfl rfl (.cons rfl rfl (.cons rfl rfl (.cons rfl rfl .nil))))) (by kernel_rfl)) <| m1Q 8 rfl ?_
   refine sS hS rfl sizeOf41 fun w hS => ?_
   refine nil <| nnQ (hS.at b1) <| mw <| me (by kernel_rfl) <| cwQ <| wp_ret <| retQ (resV1 rfl (rc rfl isAgg41 sizeOf41 (hS.at b0) rfl rfl)) ?_
   exact ⟨_, _, _, _, _, _, rfl, task_rd (hS.at b4) (hS.at b5) (hS.at b7) (hS.at b9) (hS.at b10), hS.ext⟩
  refine sbslice hS underlying30 sizeOf3 rfl zeroValue3 rfl (.cons rfl rfl (.cons rfl rfl (.cons rfl rfl (.cons rfl rfl (.cons rfl rfl (.cons rfl rfl .nil)))))) rfl fun b10 w hS => ?_
  refine nil <| nnQ (hS.at b1) <| mw <| m1Q 3 rfl ?_
  refine smake (bytes := 8) (zs := [.int .i64 0]) (m := 6) hS rfl rfl underlying30 ti3 rfl rfl rfl rfl rfl (by decide) (by decide) ?_; clear hS; intro b7 w hS
  refine nil <| nnQ (hS.at b1) <| mw <| mQ 4 rfl (fun w hS => yBuild zeroValue32 rfl pl32 (.cons rfl rfl (.cons rfl rfl .nil)) rfl) <| m1Q 5 rfl ?_
  refine sbslice hS underlying39 sizeOf32 rfl zeroValue32 rfl (.cons rfl rfl (.cons rfl rfl .nil)) rfl fun b9 w hS => ?_
  refine nil <| nnQ (hS.at b1) <| mw <| mQ 7 rfl (fun w hS => yBuild (r := [.slice (some ⟨b4, 0, none⟩) 3 3, .int .i64 100, .int .i64 3000, .int .i64 500, .slice none 0 0, .slice none 0 0, .slice (some ⟨b9, 0, none⟩) 2 2, .slice (some ⟨b10, 0, none⟩) 6 6, .int .i64 0, .int .i64 800, .int .i64 1]) zeroValue41 rfl pl41 (.cons rfl rfl (.cons rfl rfl (.cons rfl rfl (.cons rfl rfl (.cons rfl rfl .nil))))) (by kernel_rfl)) <| m1Q 8 rfl ?_
  refine sS hS rfl sizeOf41 fun w hS => ?_
  refine nil <| nnQ (hS.at b1) <| mw <| me (by kernel_rfl) <| cwQ <| wp_ret <| retQ (resV1 rfl (rc rfl isAgg41 sizeOf41 (hS.at b0) rfl rfl)) ?_
  exact ⟨_, _, _, _, _, _, rfl, task_rd (hS.at b4) (hS.at b5) (hS.at b7) (hS.at b9) (hS.at b10), hS.ext⟩
 ·
  refine smake (bytes := 8) (zs := [.int .i64 0]) (m := 6) hS rfl rfl underlying30 ti3 rfl rfl rfl rfl rfl (by decide) (by decide) ?_; clear hS; intro b7 w hS
  refine nil <| nnQ (hS.at b1) <| mw <| mQ 4 rfl (fun w hS => yBuild zeroValue32 rfl pl32 (.cons rfl rfl (.cons rfl rfl .nil)) rfl) ?_
  refine ms (i := 1) (is := [6]) (by kernel_rfl) ⟨⟨_, rfl, ?_⟩, ⟨_, rfl, ?_⟩, trivial⟩
  ·
   refine sbslice hS underlying30 sizeOf3 rfl zeroValue3 rfl (.cons rfl rfl (.cons rfl rfl (.cons rfl rfl (.cons rfl rfl (.cons rfl rfl (.cons rfl rfl .nil)))))) rfl fun b5 w hS => ?_
   refine nil <| nnQ (hS.at b1) <| mw <| mQ 2 rfl (fun w hS => yBuild zeroValue32 rfl pl32 (.cons rfl rfl (.cons rfl rfl .nil)) rfl) ?_
   refine ms (i := 5) (is := [6]) (by kernel_rfl) ⟨⟨_, rfl, ?_⟩, ⟨_, rfl, ?_⟩, trivial⟩
   ·
    refine sbslice hS underlying39 sizeOf32 rfl zeroValue32 rfl (.cons rfl rfl (.cons rfl rfl .nil)) rfl fun b9 w hS => ?_
    refine nil <| nnQ (hS.at b1) <| mw <| m1Q 6 rfl ?_
    refine sbslice hS underlying30 sizeOf3 rfl zeroValue3 rfl (.cons rfl rfl (.cons rfl rfl (.cons rfl rfl (.cons rfl rfl (.cons rfl rfl (.cons rfl rfl .nil)))))) rfl fun b10 w hS => ?_
    refine nil <| nnQ (hS.at b1) <| mw <| mQ 7 rfl (fun w hS => yBuild (r := [.slice (some ⟨b4, 0, none⟩) 3 3, .int .i64 100, .int .i64 3000, .int .i64 500, .slice none 0 0, .slice none 0 0, .slice (some ⟨b9, 0, none⟩) 2 2, .slice (some ⟨b10, 0, none⟩) 6 6, .int .i64 0, .int .i64 800, .int .i64 1]) zeroValue41 rfl pl41 (.cons rfl rfl (.cons rfl rfl (.cons rfl rfl (.cons rfl rfl (.cons rfl rfl .nil))))) (by kernel_rfl)) <| m1Q 8 rfl ?_
    refine sS hS rfl sizeOf41 fun w hS => ?_
    refine nil <| nnQ (hS.at b1) <| mw <| me (by kernel_rfl) <| cwQ <| wp_ret <| retQ (resV1 rfl (rc rfl isAgg41 sizeOf41 (hS.at b0) rfl rfl)) ?_
    exact ⟨_, _, _, _, _, _, rfl, task_rd (hS.at b4) (hS.at b5) (hS.at b7) (hS.at b9) (hS.at b10), hS.ext⟩
   refine sbslice hS underlying30 sizeOf3 rfl zeroValue3 rfl (.cons rfl rfl (.cons rfl rfl (.cons rfl rfl (.cons rfl rfl (.cons rfl rfl (.cons rfl rfl .nil)))))) rfl fun b10 w hS => ?_
   refine nil <| nnQ (hS.at b1) <| mw <| m1Q 5 rfl ?_
   refine sbslice hS underlying39 sizeOf32 rfl zeroValue32 rfl (.cons rfl rfl (.cons rfl rfl .nil)) rfl fun b9 w hS => ?_
   refine nil <| nnQ (hS.at b1) <| mw <| mQ 7 rfl (fun w hS => yBuild (r := [.slice (some ⟨b4, 0, none⟩) 3 3, .int .i64 100, .int .i64 3000, .int .i64 500, .slice none 0 0, .slice none 0 0, .slice (some ⟨b9, 0, none⟩) 2 2, .slice (some ⟨b10, 0, none⟩) 6 6, .int .i64 0, .int .i64 800, .int .i64 1]) zeroValue41 rfl pl41 (.cons rfl rfl (.cons rfl rfl (.cons rfl rfl (.cons rfl rfl (.cons rfl rfl .nil))))) (by kernel_rfl)) <| m1Q 8 rfl ?_
   refine sS hS rfl sizeOf41 fun w hS => ?_
   refine nil <| nnQ (hS.at b1) <| mw <| me (by kernel_rfl) <| cwQ <| wp_ret <| retQ (resV1 rfl (rc rfl isAgg41 sizeOf41 (hS.at b0) rfl rfl)) ?_
   exact ⟨_, _, _, _, _, _, rfl, task_rd (hS.at b4) (hS.at b5) (hS.at b7) (hS.at b9) (hS.at b10), hS.ext⟩
  refine sbslice hS underlying30 sizeOf3 rfl zeroValue3 rfl (.cons rfl rfl (.cons rfl rfl (.cons rfl rfl (.cons rfl rfl (.cons rfl rfl (.cons rfl rfl .nil)))))) rfl fun b10 w hS => ?_
  refine nil <| nnQ (hS.at b1) <| mw <| m1Q 1 rfl ?_
  refine sbslice hS underlying30 sizeOf3 rfl zeroValue3 rfl (.cons rfl rfl (.cons rfl rfl (.cons rfl rfl (.cons rfl rfl (.cons rfl rfl (.cons rfl rfl .nil)))))) rfl fun b5 w hS => ?_
  refine nil <| nnQ (hS.at b1) <| mw <| mQ 2 rfl (fun w hS => yBuild zeroValue32 rfl pl32 (.cons rfl rfl (.cons rfl rfl .nil)) rfl) <| m1Q 5 rfl ?_
  refine sbslice hS underlying39 sizeOf32 rfl zeroValue32 rfl (.cons rfl rfl (.cons rfl rfl .nil)) rfl fun b9 w hS => ?_
  refine nil <| nnQ (hS.at b1) <| mw <| mQ 7 rfl (fun w hS => yBuild (r := [.slice (some ⟨b4, 0, none⟩) 3 3, .int .i64 100, .int .i64 3000, .int .i64 500, .slice none 0 0, .slice none 0 0, .slice (some ⟨b9, 0, none⟩) 2 2, .slice (some ⟨b10, 0, none⟩) 6 6, .int .i64 0, .int .i64 800, .int .i64 1]) zeroValue41 rfl pl41 (.cons rfl rfl (.cons rfl rfl (.cons rfl rfl (.cons rfl rfl (.cons rfl rfl .nil))))) (by kernel_rfl)) <| m1Q 8 rfl ?_
  refine sS hS rfl sizeOf41 fun w hS => ?_
  refine nil <| nnQ (hS.at b1) <| mw <| me (by kernel_rfl) <| cwQ <| wp_ret <| retQ (resV1 rfl (rc rfl isAgg41 sizeOf41 (hS.at b0) rfl rfl)) ?_
  exact ⟨_, _, _, _, _, _, rfl, task_rd (hS.at b4) (hS.at b5) (hS.at b7) (hS.at b9) (hS.at b10), hS.ext⟩
 refine sbslice hS underlying30 sizeOf3 rfl zeroValue3 rfl (.cons rfl rfl (.cons rfl rfl (.cons rfl rfl (.cons rfl rfl (.cons rfl rfl (.cons rfl rfl .nil)))))) rfl fun b10 w hS => ?_
 refine nil <| nnQ (hS.at b1) <| mw ?_
 refine ms (i := 1) (is := [3]) (by kernel_rfl) ⟨⟨_, rfl, ?_⟩, ⟨_, rfl, ?_⟩, trivial⟩
 ·
  refine sbslice hS underlying30 sizeOf3 rfl zeroValue3 rfl (.cons rfl rfl (.cons rfl rfl (.cons rfl rfl (.cons rfl rfl (.cons rfl rfl (.cons rfl rfl .nil)))))) rfl fun b5 w hS => ?_
  refine nil <| nnQ (hS.at b1) <| mw <| mQ 2 rfl (fun w hS => yBuild zeroValue32 rfl pl32 (.cons rfl rfl (.cons rfl rfl .nil)) rfl) <| m1Q 3 rfl ?_
  refine smake (bytes := 8) (zs := [.int .i64 0]) (m := 6) hS rfl rfl underlying30 ti3 rfl rfl rfl rfl rfl (by decide) (by decide) ?_; clear hS; intro b7 w hS
  refine nil <| nnQ (hS.at b1) <| mw <| mQ 4 rfl (fun w hS => yBuild zeroValue32 rfl pl32 (.cons rfl rfl (.cons rfl rfl .nil)) rfl) <| m1Q 5 rfl ?_
  refine sbslice hS underlying39 sizeOf32 rfl zeroValue32 rfl (.cons rfl rfl (.cons rfl rfl .nil)) rfl fun b9 w hS => ?_
  refine nil <| nnQ (hS.at b1) <| mw <| mQ 7 rfl (fun w hS => yBuild (r := [.slice (some ⟨b4, 0, none⟩) 3 3, .int .i64 100, .int .i64 3000, .int .i64 500, .slice none 0 0, .slice none 0 0, .slice (some ⟨b9, 0, none⟩) 2 2, .slice (some ⟨b10, 0, none⟩) 6 6, .int .i64 0, .int .i64 800, .int .i64 1]) zeroValue41 rfl pl41 (.cons rfl rfl (.cons rfl rfl (.cons rfl rfl (.cons rfl rfl (.cons rfl rfl .nil))))) (by kernel_rfl)) <| m1Q 8 rfl ?_
  refine sS hS rfl sizeOf41 fun w hS => ?_
  refine nil <| nnQ (hS.at b1) <| mw <| me (by kernel_rfl) <| cwQ <| wp_ret <| retQ (resV1 rfl (rc rfl isAgg41 sizeOf41 (hS.at b0) rfl rfl)) ?_
  exact ⟨_, _, _, _, _, _, rfl, task_rd (hS.at b4) (hS.at b5) (hS.at b7) (hS.at b9) (hS.at b10), hS.ext⟩
 refine smake (bytes := 8) (zs := [.int .i64 0]) (m := 6) hS rfl rfl underlying30 ti3 rfl rfl rfl rfl rfl (by decide) (by decide) ?_; clear hS; intro b7 w hS
 refine nil <| nnQ (hS.at b1) <| mw <| mQ 4 rfl (fun w hS => yBuild zeroValue32 rfl pl32 (.cons rfl rfl (.cons rfl rfl .nil)) rfl) <| m1Q 1 rfl ?_
 refine sbslice hS underlying30 sizeOf3 rfl zeroValue3 rfl (.cons rfl rfl (.cons rfl rfl (.cons rfl rfl (.cons rfl rfl (.cons rfl rfl (.cons rfl rfl .nil)))))) rfl fun b5 w hS => ?_
 refine nil <| nnQ (hS.at b1) <| mw <| mQ 2 rfl (fun w hS => yBuild zeroValue32 rfl pl32 (.cons rfl rfl (.cons rfl rfl .nil)) rfl) <| m1Q 5 rfl ?_
 refine sbslice hS underlying39 sizeOf32 rfl zeroValue32 rfl (.cons rfl rfl (.cons rfl rfl .nil)) rfl fun b9 w hS => ?_
 refine nil <| nnQ (hS.at b1) <| mw <| mQ 7 rfl (fun w hS => yBuild (r := [.slice (some ⟨b4, 0, none⟩) 3 3, .int .i64 100, .int .i64 3000, .int .i64 500, .slice none 0 0, .slice none 0 0, .slice (some ⟨b9, 0, none⟩) 2 2, .slice (some ⟨b10, 0, none⟩) 6 6, .int .i64 0, .int .i64 800, .int .i64 1]) zeroValue41 rfl pl41 (.cons rfl rfl (.cons rfl rfl (.cons rfl rfl (.cons rfl rfl (.cons rfl rfl .nil))))) (by kernel_rfl)) <| m1Q 8 rfl ?_
 refine sS hS rfl sizeOf41 fun w hS => ?_
 refine nil <| nnQ (hS.at b1) <| mw <| me (by kernel_rfl) <| cwQ <| wp_ret <| retQ (resV1 rfl (rc rfl isAgg41 sizeOf41 (hS.at b0) rfl rfl)) ?_
 exact ⟨_, _, _, _, _, _, rfl, task_rd (hS.at b4) (hS.at b5) (hS.at b7) (hS.at b9) (hS.at b10), hS.ext⟩
theorem c_RulesE {w0 : World} : CV Tryz.prog 14 #[] w0 (.agg [.int .i64 1, .int .i64 3].toArray) := by
 refine enQ func14 rfl ntmps14 rfl fun hS => ?_
 refine seq <| region ?_
 refine salloc hS zeroValue43 rfl fun b0 w hS => ?_
 refine nil <| cwQ <| seq <| region <| sv (yBuild zeroValue43 rfl pl43 (.cons rfl rfl (.cons rfl rfl .nil)) rfl) ?_
 refine sS hS rfl sizeOf43 fun w hS => ?_
 refine nil <| cwQ <| wp_ret ?_
 exact retV (resV1 rfl (rc rfl isAgg43 sizeOf43 (hS.at b0) rfl rfl)) hS.ext
theorem c_Awake5 {w0 : World} : CV Tryz.prog 5 #[] w0 (.bool true) := by
 refine enQ func5 rfl ntmps5 rfl fun hS => ?_
 refine seq <| region <| vA <| nil <| cwQ <| seq <| region ?_
 refine scall call13 .nil c_TaskE ?_
 rintro _ w ⟨ar1, cr1, ah1, ch1, ai1, ci1, rfl, hT1, hE⟩; replace hS := hS.step hE; clear hE
 refine scall call12 e2 (c_Last (c := exCl) (k := 0) hT1) ?_
 rw [exl_0]
 rintro _ w ⟨rfl, hE⟩; replace hS := hS.step hE; clear hE
 refine vM <| sv (yExt rfl rfl) <| sv (yExt rfl rfl) <| vA <| vA <| nil <| cwQ <| seq <| region ?_
 refine scall call13 .nil c_TaskE ?_
 rintro _ w ⟨ar2, cr2, ah2, ch2, ai2, ci2, rfl, hT2, hE⟩; replace hS := hS.step hE; clear hE
 refine scall call14 .nil c_RulesE ?_
 rintro _ w ⟨rfl, hE⟩; replace hS := hS.step hE; replace hT2 := hT2.ext hE; clear hE
 refine scall call6 e2 (c_Decide (c := exCl) (r := (1, 3)) hT2) ?_
 rw [exd]
 rintro _ w ⟨a9, n9, c9, a8, c8, rfl, hE⟩; replace hS := hS.step hE; clear hE
 refine vM <| sv (yExt rfl rfl) <| sv (yExt rfl rfl) ?_
 refine salloc hS zeroValue57 rfl fun b3 w hS => ?_
 refine sS hS rfl sizeOf57 fun w hS => ?_
 refine vA <| nil <| cwQ <| seq <| region ?_
 refine scall call13 .nil c_TaskE ?_
 rintro _ w ⟨ar3, cr3, ah3, ch3, ai3, ci3, rfl, hT3, hE⟩; replace hS := hS.step hE; clear hE
 refine scall call12 e2 (c_Last (c := exCl) (k := 2) hT3) ?_
 rw [exl_2]
 rintro _ w ⟨rfl, hE⟩; replace hS := hS.step hE; clear hE
 refine vM <| sv (yExt rfl rfl) <| sv (yExt rfl rfl) <| vA <| vA <| nil <| cwQ <| seq <| region <| vM <| sv (yEql rfl rfl) <| vM <| ungo rfl rfl rfl ?_
 refine vM <| ungo rfl rfl rfl <| sv (yEql rfl rfl) <| sv (yAnd rfl (fun hB => rfl) rfl) <| vM <| ungo rfl rfl rfl <| vM <| ungo rfl rfl rfl <| sv (yEql rfl rfl) <| sv (yAnd rfl (fun hB => rfl) rfl) <| vM <| ungo rfl rfl rfl <| vM ?_
 refine ungo rfl rfl rfl <| sv (yEql rfl rfl) <| sv (yAnd rfl (fun hB => rfl) rfl) <| vM <| ungo rfl rfl rfl <| sv (fa57_0 rfl) <| ungo rfl rfl rfl <| sv (yLdBA rfl isAgg45 sizeOf45 (hS.at _) rfl rfl) <| ungo rfl rfl rfl <| sv (yBuild zeroValue45 rfl pl45 (.cons rfl rfl (.cons rfl rfl .nil)) rfl) <| ungo rfl rfl rfl <| sv (eqS45 rfl rfl) <| sv (yAnd rfl (fun hB => rfl) rfl) ?_
 refine vM <| ungo rfl rfl rfl <| sv (fa57_2 rfl) <| ungo rfl rfl rfl <| vL rfl isAgg55 hS rfl <| ungo rfl rfl rfl <| sv (yLen rfl underlying55) <| ungo rfl rfl rfl <| sv (yEql rfl rfl) <| sv (yAnd rfl (fun hB => rfl) rfl) <| vA <| nil <| cwQ ?_
 refine wp_ret ?_
 exact rvQ hS
end Go.Proofs.YtchbdfcbogjhcaaGreatDoor
namespace Bx
open Go Go.RowKit
def RU6 (_ : World) (cs : List Value) (n : Int) : Prop := cs = [.int .u16 n] ∧ 0 ≤ n ∧ n ≤ 65535
theorem RU6.stays : Stays RU6 := fun _ _ _ _ _ h => h
theorem rd_u6 {P : Program} {t : TypeId} (ht : P.underlying t = some (.int .u16)) : Rd P t RU6 := by
 intro H enc w base spare held n cs x h
 obtain ⟨i, rfl, _, hw⟩ := DataW.trod_int ht h
 obtain ⟨h1, h2⟩ := bounds_u16 hw
 exact ⟨i, rfl, h1, h2⟩
structure Kno where
 sea : Sgt
 now : Int
 own : Ser
structure Rld where
 rules : Int × Int
 plan : Pln
 river : List Int
def RKno (w : World) (cs : List Value) (x : Kno) : Prop := ∃ cv gv tv fv v, cs = [.int .i64 x.sea.table.mean, cv, gv, .int .i64 x.sea.wrong, .int .i64 x.sea.frm, .int .i64 x.sea.ticks, tv, fv, .int .i64 x.sea.least, .int .i64 x.sea.most, .int .i64 x.sea.rate, .int .i64 x.sea.quorum, .int .i64 x.now, .int .i64 x.own.frm, v] ∧
 RSgt w [.int .i64 x.sea.table.mean, cv, gv, .int .i64 x.sea.wrong, .int .i64 x.sea.frm, .int .i64 x.sea.ticks, tv, fv, .int .i64 x.sea.least, .int .i64 x.sea.most, .int .i64 x.sea.rate, .int .i64 x.sea.quorum] x.sea ∧ I64 x.now ∧ I64 x.own.frm ∧ Sl w 1 RInt v x.own.vals
def RRld (w : World) (cs : List Value) (r : Rld) : Prop := ∃ v, cs = [.int .i64 r.rules.1, .int .i64 r.rules.2, .int .i64 r.plan.close, .int .i64 r.plan.opn, v] ∧ I64 r.rules.1 ∧ I64 r.rules.2 ∧ I64 r.plan.close ∧ I64 r.plan.opn ∧ Sl w 1 RU6 v r.river
def rivF (l : List Int) (i : Nat) : Int := l.getD (i % l.length) 0
def rivL (l : List Int) (m k : Nat) : List Int := (List.range m).map fun i => if i < k then rivF l i else 0
theorem rivL_len (l : List Int) (m k : Nat) : (rivL l m k).length = m := by simp [rivL]
theorem rivL_zero (l : List Int) (m : Nat) : (rivL l m 0).flatMap encI = (List.replicate m [Value.int .i64 0]).flatten := by
 have : rivL l m 0 = List.replicate m 0 := by
  apply List.ext_getElem
  ·
   simp [rivL]
  ·
   intro i h1 h2; simp [rivL]
 rw [this]
 induction m with
 | zero => rfl
 | succ m ih => rw [List.replicate_succ, List.replicate_succ, List.flatMap_cons, List.flatten_cons, ih (by apply List.ext_getElem; simp [rivL]; intro i h1 h2; simp [rivL])]; rfl
theorem rivL_set {l : List Int} {m k : Nat} (h : k < m) : (rivL l m k).set k (rivF l k) = rivL l m (k + 1) := by
 apply List.ext_getElem
 ·
  simp [rivL]
 ·
  intro i h1 h2
  simp only [rivL, List.getElem_set, List.getElem_map, List.getElem_range]
  by_cases e : k = i
  ·
   subst e; simp
  ·
   by_cases e2 : i < k
   ·
    rw [if_neg e, if_pos e2, if_pos (by omega)]
   ·
    rw [if_neg e, if_neg e2, if_neg (by omega)]
theorem rivL_same {m k : Nat} : rivL [] m (k + 1) = rivL [] m k := by
 unfold rivL
 congr 1
 funext i
 have : rivF [] i = 0 := by unfold rivF; simp
 rw [this]; split <;> split <;> rfl
theorem rivF_bd {w : World} {v : Value} {l : List Int} (h : Sl w 1 RU6 v l) (i : Nat) : 0 ≤ rivF l i ∧ rivF l i ≤ 65535 := by
 unfold rivF
 by_cases hl : l.length = 0
 ·
  rw [List.length_eq_zero_iff.1 hl]; simp
 ·
  have hi : i % l.length < l.length := Nat.mod_lt _ (by omega)
  obtain ⟨a, cap, rfl, -⟩ := id h
  obtain ⟨b, o, cs, -, -, -, hR, -⟩ := sl_at h (show l[i % l.length]? = some (l.getD (i % l.length) 0) by simp [List.getD, hi])
  exact hR.2
theorem rivL_i64 {w : World} {v : Value} {l : List Int} (h : Sl w 1 RU6 v l) (m k : Nat) : ∀ x ∈ rivL l m k, I64 x := fun x hx => by
 obtain ⟨i, -, rfl⟩ := List.mem_map.1 hx
 have := rivF_bd h i
 split
 ·
  exact ⟨by omega, by omega⟩
 ·
  decide
def topC (c : Clt) (t : Sgt) (now : Int) (r : List Int) : Clt := { c with hist := (posR t now).1.map (Ser.mk t.frm), river := rivL r (t.ticks % 61).toNat (t.ticks % 61).toNat }
theorem top_sea {c : Clt} {t : Sgt} {now : Int} {o : Ser} {r : Int × Int} {p : Pln} {m' : Nat} (hc : c.hist = (posR t now).1.map (Ser.mk t.frm)) (he : (posR t now).2 = 0) (e : decR c r = (p, m', 0)) (hp : 0 ≤ p.close) (h0 : (isR t now o).2 = 0) (h : (isR t now o).1 = true) :
    (innR (soloC c o) 0 p).2 = 0 ∧ (innR (soloC c o) 0 p).1.length = o.vals.length ∧ ∀ s ∈ (innR (soloC c o) 0 p).1, s.hi ≤ c.limit := by
  obtain ⟨hok, -⟩ := dec_ok e hp
  obtain ⟨hs, hn, hf, hl, hv, hi⟩ := isR_true h0 h
  have hpos : (posR t now).1 = posS t now := by
    unfold posR at he ⊢
    split
    next k => rw [if_pos k] at he; exact absurd he k
    next k => rfl
  obtain ⟨⟨u, hu, huv⟩, -⟩ := covers (now := now) hs hl hi
  rw [hpos] at hc
  obtain ⟨k, hk, hku⟩ := List.getElem_of_mem hu
  have hkc : k < c.hist.length := by rw [hc, List.length_map]; exact hk
  have hsk : hsS c k = ⟨t.frm, u⟩ := by
    unfold hsS
    rw [List.getD_eq_getElem?_getD, List.getElem?_eq_getElem hkc]
    simp only [Option.getD_some]
    have : c.hist[k] = ((posS t now).map (Ser.mk t.frm))[k]'(by rw [List.length_map]; exact hk) := by congr 1
    rw [this, List.getElem_map, hku]
  have hfr := (hok.his k hkc).1
  have hnc := (hok.his k hkc).2.1
  have hvk : hsV c k = u := by unfold hsV; rw [hsk]
  rw [hsk] at hfr
  rw [hvk] at hnc
  unfold overB at huv
  simp only [Bool.and_eq_true, decide_eq_true_eq, List.all_eq_true, List.mem_range] at huv
  exact top_in e hp (hf.trans hfr) (huv.1.symm.trans hnc) hv hkc fun i hi2 => by
    rw [hvk]
    exact huv.2 i (by omega)
theorem all_false {c : Clt} {p : Pln} {k : Nat} (hk : k < c.hist.length) (h : ¬ failC c k p < 0) : ((List.range c.hist.length).map fun k => decide (failC c k p < 0)).all (fun b => b) = false := by
 rw [List.all_eq_false]
 exact ⟨false, List.mem_map.2 ⟨k, List.mem_range.2 hk, decide_eq_false h⟩, by decide⟩
theorem rivL_store {l : List Int} {m k : Nat} (h : k < m) : splice ((rivL l m k).flatMap encI) (k * 1) [.int .i64 (rivF l k)] = (rivL l m (k + 1)).flatMap encI := by
 rw [← rivL_set h]
 exact splice_enc encI_len _ _ _ (by rw [rivL_len]; exact h)
theorem hold_z {c : Clt} {p : Pln} (h : (holdR c p).2 = 0) : holdE c p = 0 ∧ holdR c p = ((List.range c.hist.length).map (fun k => decide (failC c k p < 0)), 0) := by
 by_cases he : holdE c p = 0
 ·
  exact ⟨he, by unfold holdR; rw [if_neg (fun k => k he)]⟩
 ·
  unfold holdR at h
  rw [if_pos he] at h
  exact absurd h he
theorem solo_row {w : World} {c : Clt} {o : Ser} {rv pv fv hv iv v : Value}
    (h : RClt w [rv, .int .i64 c.bas.leak, .int .i64 c.bas.crest, .int .i64 c.bas.over, pv, fv, hv, iv, .int .i64 c.out, .int .i64 c.limit, .int .i64 c.delay] c) (hs : Sl w 2 RSer v [o]) :
    RClt w [rv, .int .i64 c.bas.leak, .int .i64 c.bas.crest, .int .i64 c.bas.over, pv, fv, v, iv, .int .i64 c.out, .int .i64 c.limit, .int .i64 c.delay] (soloC c o) := by
  obtain ⟨_, _, _, _, _, e, h1, h2, h3, h4, h5, h6⟩ := h
  cases e
  exact ⟨_, _, _, _, _, rfl, h1, h2, h3, hs, h5, h6⟩
theorem all_take {l : List Bool} {i : Nat} {b : Bool} (h : l[i]? = some b) : (((l.take i).all fun b => b) && b) = ((l.take (i + 1)).all fun b => b) := by
 rw [take_snoc h, List.all_append]; simp
theorem pos_ask {t : Sgt} {now : Int} (h : (posR t now).2 = 0) : askE t now = 0 := by
 unfold posR at h
 split at h
 next k => exact absurd h k
 next k => exact Decidable.not_not.1 k
end Bx
namespace Go.Proofs.YtchbdfcbogjhcaaGreatDoor
open Go Bx Go.Proofs.Tryz
theorem w_TopSurge {x : Kno} {c : Clt} {r : Rld} {cs1 cs2 cs3 : List Value} {w0 : World} (hg : Glb w0) (hx : RKno w0 cs1 x) (ht : RClt w0 cs2 c) (hr : RRld w0 cs3 r) : CV Tryz.prog 3 #[.agg cs1.toArray, .agg cs2.toArray, .agg cs3.toArray] w0 (.bool true) := by
 obtain ⟨t, now, o⟩ := x
 obtain ⟨q, p2, rl⟩ := r
 obtain ⟨cv, gv, tv, fv, ov, rfl, hSe, hnw, hof, hov⟩ := hx
 dsimp only at hSe hnw hof hov
 obtain ⟨_, _, _, _, es0, hTb, hG, hw64, hf64, hk64, hC, hF, -⟩ := id hSe
 cases es0
 obtain ⟨ag, cg, rfl, -⟩ := id hG
 obtain ⟨ak, ck, rfl, -⟩ := id hC
 obtain ⟨ae, ce, rfl, -⟩ := id hF
 obtain ⟨ao, co, rfl, hoc, hom, -⟩ := id hov
 obtain ⟨uv, rfl, hq1, hq2, hp1, hp2, hru⟩ := hr
 dsimp only at hq1 hq2 hp1 hp2 hru
 obtain ⟨au, cu, rfl, -⟩ := id hru
 obtain ⟨rv, pv, fv, hv, iv, rfl, hB, hFl, hFr, hH, hR, ho64, hl64, hd64⟩ := id ht
 obtain ⟨_, _, e0, hbs, -, -, -, hbp⟩ := id hB
 cases e0
 obtain ⟨ar, cr, rfl, -⟩ := id hbs
 obtain ⟨ap, cp, rfl, -⟩ := id hbp
 obtain ⟨af, cf, rfl, -⟩ := id hFl
 obtain ⟨ah, ch, rfl, -⟩ := id hH
 obtain ⟨ai, ci, rfl, -⟩ := id hR
 refine enQ func3 rfl ntmps3 rfl fun hS => ?_
 refine seq <| region ?_
 refine sbox hS rfl rfl fun b3 w hS => ?_
 refine sbox hS rfl rfl fun b4 w hS => ?_
 refine sbox hS rfl rfl fun b5 w hS => ?_
 refine vA <| nil <| cwQ <| seq <| region <| sv (fa34_0 rfl) <| sv (yLdBA rfl isAgg29 sizeOf29 (hS.at _) rfl rfl) <| sv (fa34_1 rfl) <| vL rfl isAgg3 hS rfl ?_
 refine scall call4 e2 (c_Possible (hSe.ext hS.ext) (hg.ext hS.ext) hnw) ?_
 rintro _ w ⟨pv9, is1, rfl, hi1, hM⟩; replace hS := hS.call1 hM; clear hM
 obtain ⟨ah1, ch1, rfl, -⟩ := hi1 w (fun it hi => hS.ok (packI is1) (by simp) it hi)
 refine vM <| sv (yExt rfl rfl) <| sv (yExt rfl rfl) <| vA <| vA <| nil <| cwQ <| seq <| seq <| region <| vM <| sv (yNeq rfl rfl) <| vM ?_
 refine sg rfl rfl rfl (fun g => (yMove rfl)) (fun v29 g29 => ?_)
 refine sg rfl rfl rfl (fun g => (yLen (g29.1 g) underlying39)) (fun v30 g30 => ?_)
 refine sg rfl rfl rfl (fun g => (yEql (g30.1 g) rfl)) (fun v31 g31 => ?_)
 refine sv (yOr rfl rfl (fun hB => (g31.1 hB))) <| nil <| cwQ ?_
 refine cond rfl (fun c32 => ?_) (fun c32 => ?_)
 ·
  refine seq <| region ?_
  refine scV hS call5 .nil c_Awake5 fun w hS => ?_
  refine vA <| nil <| cwQ ?_
  refine wp_ret (thenR ?_)
  exact rvQ hS
 have hp0 : (posR t now).2 = 0 := by simp at c32; exact c32.1
 obtain ⟨hsg, -⟩ := askE_ok (pos_ask hp0)
 have htk := hsg.tk
 obtain ⟨mm, hmm⟩ := Int.eq_ofNat_of_zero_le (show 0 ≤ t.ticks % 61 by omega)
 have hmq : mm = (t.ticks % 61).toNat := by rw [hmm]; rfl
 have hm61 : mm < 61 := by omega
 refine skip <| cwQ ?_
 refine seqJ (n := 170) (fun f w => ∃ (b39 : Nat), f 3 = ptQ b3 ∧ f 4 = ptQ b4 ∧ f 5 = ptQ b5 ∧ StX [] w0 w (rowI (.slice (some ⟨b39, 0, none⟩) mm mm) 3 1 mm ((rivL rl mm 0).flatMap Bx.encI) :: packI is1 :: blk b5 [.int .i64 q.1, .int .i64 q.2, .int .i64 p2.close, .int .i64 p2.opn, .slice au rl.length cu] 48 :: blk b4 [.slice ar c.bas.rows.length cr, .int .i64 c.bas.leak, .int .i64 c.bas.crest, .int .i64 c.bas.over, .slice ap c.bas.pols.length cp, .slice af c.filled.length cf, .slice ah1 ((posR t now).1.map (Ser.mk t.frm)).length ch1, .slice (some ⟨b39, 0, none⟩) mm mm, .int .i64 c.out, .int .i64 c.limit, .int .i64 c.delay] 41 :: blk b3 [.int .i64 t.table.mean, cv, .slice ag t.gauges.length cg, .int .i64 t.wrong, .int .i64 t.frm, .int .i64 t.ticks, .slice ak t.ctrs.length ck, .slice ae t.fcs.length ce, .int .i64 t.least, .int .i64 t.most, .int .i64 t.rate, .int .i64 t.quorum, .int .i64 now, .int .i64 o.frm, .slice ao o.vals.length co] 34 :: ([] : List Bx.Item)) ∧ True) ?_ ?_
 ·
  refine rmQ (fun w => w.heap[b3]? = some (.cells ([.int .i64 t.table.mean, cv, .slice ag t.gauges.length cg, .int .i64 t.wrong, .int .i64 t.frm, .int .i64 t.ticks, .slice ak t.ctrs.length ck, .slice ae t.fcs.length ce, .int .i64 t.least, .int .i64 t.most, .int .i64 t.rate, .int .i64 t.quorum, .int .i64 now, .int .i64 o.frm, .slice ao o.vals.length co] : List Value).toArray 34 (0, 0))) (fun _ => True) [] [] mixed hS ?_; clear hS; intro w hS
  refine mQ 0 rfl (fun w hS => yMove rfl) <| mQ 1 rfl (fun w hS => fa34_0 rfl) <| mQ 2 rfl (fun w hS => fa29_4 rfl) <| mq 1 3 [] (by kernel_rfl) rfl (hS.at b3) (fun w hS => yLdB rfl isAgg3 hS rfl) <| mQ 4 rfl (fun w hS => Y.to (yRemP rfl rfl (by omega) (by decide)) (congrArg (Value.int .i64) hmm)) <| mQ 6 rfl (fun w hS => fa41_2 rfl) ?_
  refine ms (i := 5) (is := [7]) (by kernel_rfl) ⟨⟨_, rfl, ?_⟩, ⟨_, rfl, ?_⟩, trivial⟩
  ·
   refine smake (bytes := 8) (zs := [.int .i64 0]) (m := mm) hS rfl rfl underlying30 ti3 rfl rfl rfl rfl rfl (by omega) (by omega) ?_; clear hS; intro b39 w hS
   refine nil <| nnQ (hS.at b3) <| mw <| m1Q 7 rfl ?_
   refine sS hS rfl sizeOf39 fun w hS => ?_
   refine nil <| nnQ (hS.at b3) <| mw <| mQ 8 rfl (fun w hS => fa41_3 rfl) <| m1Q 9 rfl ?_
   refine sS hS rfl sizeOf30 fun w hS => ?_
   refine nil <| nnQ (hS.at b3) <| mw <| me (by kernel_rfl) ?_
   replace hS := hS.toRow 1 mm (by simp) (by omega)
   rw [← rivL_zero rl mm] at hS
   exact ⟨_, rfl, b39, rfl, rfl, rfl, hS, trivial⟩
  refine sS hS rfl sizeOf39 fun w hS => ?_
  refine nil <| nnQ (hS.at b3) <| mw <| m1Q 5 rfl ?_
  refine smake (bytes := 8) (zs := [.int .i64 0]) (m := mm) hS rfl rfl underlying30 ti3 rfl rfl rfl rfl rfl (by omega) (by omega) ?_; clear hS; intro b39 w hS
  refine nil <| nnQ (hS.at b3) <| mw <| mQ 8 rfl (fun w hS => fa41_3 rfl) <| m1Q 9 rfl ?_
  refine sS hS rfl sizeOf30 fun w hS => ?_
  refine nil <| nnQ (hS.at b3) <| mw <| me (by kernel_rfl) ?_
  replace hS := hS.toRow 1 mm (by simp) (by omega)
  rw [← rivL_zero rl mm] at hS
  exact ⟨_, rfl, b39, rfl, rfl, rfl, hS, trivial⟩
 clear hS; rintro f w ⟨b39, h3, h4, h5, hS, -⟩
 refine seq <| seq <| region <| vA <| nil <| cwQ <| block <| loop (fun f w zz => ∃ (k : Nat), f 3 = ptQ b3 ∧ f 4 = ptQ b4 ∧ f 5 = ptQ b5 ∧ f 9 = .int .i64 (k : Int) ∧ StX [] w0 w (rowI (.slice (some ⟨b39, 0, none⟩) mm mm) 3 1 mm ((rivL rl mm k).flatMap Bx.encI) :: packI is1 :: blk b5 [.int .i64 q.1, .int .i64 q.2, .int .i64 p2.close, .int .i64 p2.opn, .slice au rl.length cu] 48 :: blk b4 [.slice ar c.bas.rows.length cr, .int .i64 c.bas.leak, .int .i64 c.bas.crest, .int .i64 c.bas.over, .slice ap c.bas.pols.length cp, .slice af c.filled.length cf, .slice ah1 ((posR t now).1.map (Ser.mk t.frm)).length ch1, .slice (some ⟨b39, 0, none⟩) mm mm, .int .i64 c.out, .int .i64 c.limit, .int .i64 c.delay] 41 :: blk b3 [.int .i64 t.table.mean, cv, .slice ag t.gauges.length cg, .int .i64 t.wrong, .int .i64 t.frm, .int .i64 t.ticks, .slice ak t.ctrs.length ck, .slice ae t.fcs.length ce, .int .i64 t.least, .int .i64 t.most, .int .i64 t.rate, .int .i64 t.quorum, .int .i64 now, .int .i64 o.frm, .slice ao o.vals.length co] 34 :: ([] : List Bx.Item)) ∧ (k ≤ mm) ∧ zz = mm - k) _ ⟨_, rfl, 0, h3, h4, h5, rfl, hS, (Nat.zero_le _), rfl⟩ ?_
 clear hS
 rintro f w _ ⟨k, h3, h4, h5, h9, hS, hk, rfl⟩
 refine seq <| seq <| region <| sv (yMove h9) <| sv (fa41_3 h4) <| vL rfl isAgg30 hS rfl <| sv (yLen rfl underlying30) <| sv (yLss rfl rfl) <| nil <| cwQ ?_
 refine cond rfl ?_ ?_ <;> intro c46 <;> simp only [BS, ne_eq] at c46
 ·
  have hkl : k < mm := by omega
  refine skip <| cwQ ?_
  refine seqJ (n := 170) (fun f w => f 3 = ptQ b3 ∧ f 4 = ptQ b4 ∧ f 5 = ptQ b5 ∧ f 9 = .int .i64 (k : Int) ∧ StX [] w0 w (rowI (.slice (some ⟨b39, 0, none⟩) mm mm) 3 1 mm ((rivL rl mm (k + 1)).flatMap Bx.encI) :: packI is1 :: blk b5 [.int .i64 q.1, .int .i64 q.2, .int .i64 p2.close, .int .i64 p2.opn, .slice au rl.length cu] 48 :: blk b4 [.slice ar c.bas.rows.length cr, .int .i64 c.bas.leak, .int .i64 c.bas.crest, .int .i64 c.bas.over, .slice ap c.bas.pols.length cp, .slice af c.filled.length cf, .slice ah1 ((posR t now).1.map (Ser.mk t.frm)).length ch1, .slice (some ⟨b39, 0, none⟩) mm mm, .int .i64 c.out, .int .i64 c.limit, .int .i64 c.delay] 41 :: blk b3 [.int .i64 t.table.mean, cv, .slice ag t.gauges.length cg, .int .i64 t.wrong, .int .i64 t.frm, .int .i64 t.ticks, .slice ak t.ctrs.length ck, .slice ae t.fcs.length ce, .int .i64 t.least, .int .i64 t.most, .int .i64 t.rate, .int .i64 t.quorum, .int .i64 now, .int .i64 o.frm, .slice ao o.vals.length co] 34 :: ([] : List Bx.Item)) ∧ True) ?_ ?_
  ·
   refine block <| seq <| region <| sv (fa48_2 h5) <| vL rfl isAgg46 hS rfl <| sv (yLen rfl underlying46) <| sv (yGtr rfl rfl) <| nil <| cwQ ?_
   refine cond rfl ?_ ?_ <;> intro c52 <;> simp only [BS, ne_eq] at c52
   ·
    have hrl : 0 < rl.length := by omega
    have hkm : k % rl.length < rl.length := Nat.mod_lt _ hrl
    have hrb := rivF_bd hru k
    obtain ⟨bq, oq, cq, haq, -, hcq, hRq, -⟩ := sl_at hru (show rl[k % rl.length]? = some (rivF rl k) by unfold rivF; simp [List.getD, hkm])
    obtain ⟨rfl, hq3⟩ := hRq
    refine rmQ (fun w => StX [] w0 w (rowI (.slice (some ⟨b39, 0, none⟩) mm mm) 3 1 mm ((rivL rl mm k).flatMap Bx.encI) :: packI is1 :: blk b5 [.int .i64 q.1, .int .i64 q.2, .int .i64 p2.close, .int .i64 p2.opn, .slice au rl.length cu] 48 :: blk b4 [.slice ar c.bas.rows.length cr, .int .i64 c.bas.leak, .int .i64 c.bas.crest, .int .i64 c.bas.over, .slice ap c.bas.pols.length cp, .slice af c.filled.length cf, .slice ah1 ((posR t now).1.map (Ser.mk t.frm)).length ch1, .slice (some ⟨b39, 0, none⟩) mm mm, .int .i64 c.out, .int .i64 c.limit, .int .i64 c.delay] 41 :: blk b3 [.int .i64 t.table.mean, cv, .slice ag t.gauges.length cg, .int .i64 t.wrong, .int .i64 t.frm, .int .i64 t.ticks, .slice ak t.ctrs.length ck, .slice ae t.fcs.length ce, .int .i64 t.least, .int .i64 t.most, .int .i64 t.rate, .int .i64 t.quorum, .int .i64 now, .int .i64 o.frm, .slice ao o.vals.length co] 34 :: ([] : List Bx.Item))) (fun _ => True) [14] [] mixed hS ?_; clear hS; intro w hS
    refine mQ 0 rfl (fun w hS => fa41_3 h4) <| mq 1 1 [13, 14] (by kernel_rfl) rfl (sbQ hS) (fun w hS => yLdB rfl isAgg30 (hS.at _) rfl) <| mQ 2 rfl (fun w hS => yMove h9) <| mQ 3 rfl (fun w hS => fa48_2 h5) <| mq 1 4 [10, 11, 12, 13, 14] (by kernel_rfl) rfl (sbQ hS) (fun w hS => yLdB rfl isAgg46 (hS.at _) rfl) <| mQ 5 rfl (fun w hS => yMove h9) <| mQ 6 rfl (fun w hS => fa48_2 h5) <| mq 1 7 [8, 9, 10, 11, 12, 13, 14] (by kernel_rfl) rfl (sbQ hS) (fun w hS => yLdB rfl isAgg46 (hS.at _) rfl) <| mQ 8 rfl (fun w hS => yLen rfl underlying46) <| mQ 9 rfl (fun w hS => Y.to (yRemP rfl rfl (by omega) (by omega)) (congrArg (Value.int .i64) (show (k : Int) % (rl.length : Int) = ((k % rl.length : Nat) : Int) by simp))) <| mQ 10 rfl (fun w hS => yIxQ rfl haq rfl runUnderlying46 sizeOf53) <| mq 1 11 [12, 13, 14] (by kernel_rfl) rfl (sbQ hS) (fun w hS => yLd rfl isAgg53 (hcq.ext hS.ext).one) ?_
    refine mQ 12 rfl (fun w hS => yToI rfl underlying53 underlying3 ⟨by omega, by omega⟩) <| mQ 13 rfl (fun w hS => Y.to (yIxQ rfl rfl rfl runUnderlying30 sizeOf3) (congrArg (fun q => Value.pointer (some ⟨b39, q, none⟩)) (show 0 + (k : Int).toNat * 1 = k * 1 by omega))) <| m1Q 14 rfl ?_
    refine srst (m := mm) (cap := mm) (sz := 1) (vs := [.int .i64 (rivF rl k)]) hS rfl rfl sizeOf3 rfl rfl (by omega) rfl ?_; clear hS; intro w hS
    rw [rivL_store hkl] at hS
    refine nil ⟨⟨fun h => absurd h (by decide), fun _ _ => trivial⟩, mw ?_⟩
    refine me (by kernel_rfl) ?_
    exact ⟨_, rfl, h3, h4, h5, h9, hS, trivial⟩
   have hrl : rl = [] := List.eq_nil_of_length_eq_zero (by omega)
   refine skip ?_
   exact ⟨_, rfl, h3, h4, h5, h9, (by rw [show rivL rl mm (k + 1) = rivL rl mm k by rw [hrl]; exact rivL_same]; exact hS), trivial⟩
  clear hS; rintro f w ⟨h3, h4, h5, h9, hS, -⟩
  refine region <| sv (yMove h9) <| sv (yAddQ rfl rfl) <| vA <| nil ?_
  exact ⟨_, _, rfl, ⟨k + 1, h3, h4, h5, rfl, hS, (by omega), rfl⟩, by omega⟩
 obtain rfl : mm = k := by omega
 refine exit <| cwQ <| seq <| region ?_
 have hlen : (topC c t now rl).river.length = mm := by show (rivL rl (t.ticks % 61).toNat (t.ticks % 61).toNat).length = mm; rw [rivL_len, ← hmq]
 have hT1 : RClt w [.slice ar (topC c t now rl).bas.rows.length cr, .int .i64 (topC c t now rl).bas.leak, .int .i64 (topC c t now rl).bas.crest, .int .i64 (topC c t now rl).bas.over, .slice ap (topC c t now rl).bas.pols.length cp, .slice af (topC c t now rl).filled.length cf, .slice ah1 (topC c t now rl).hist.length ch1, .slice (some ⟨b39, 0, none⟩) ((topC c t now rl).river).length mm, .int .i64 (topC c t now rl).out, .int .i64 (topC c t now rl).limit, .int .i64 (topC c t now rl).delay] (topC c t now rl) := by
  have e : (topC c t now rl).river = rivL rl mm mm := by show rivL rl (t.ticks % 61).toNat (t.ticks % 61).toNat = _; rw [← hmq]
  have hri : Sl w 1 RInt (.slice (some ⟨b39, 0, none⟩) mm mm) (rivL rl mm mm) := sl_ints (hS.row (.slice (some ⟨b39, 0, none⟩) mm mm)) (rivL_len ..) (rivL_i64 hru mm mm)
  rw [hlen]
  exact ⟨_, _, _, _, _, rfl, hB.ext hS.ext, hFl.ext RInt.stays hS.ext, hFr, hi1 w (fun it hi => hS.ok (packI is1) (by simp) it hi), by rw [e]; exact hri, ho64, hl64, hd64⟩
 have hb3 : w.heap[b3]? = some (.cells ([.int .i64 t.table.mean, cv, .slice ag t.gauges.length cg, .int .i64 t.wrong, .int .i64 t.frm, .int .i64 t.ticks, .slice ak t.ctrs.length ck, .slice ae t.fcs.length ce, .int .i64 t.least, .int .i64 t.most, .int .i64 t.rate, .int .i64 t.quorum, .int .i64 now, .int .i64 o.frm, .slice ao o.vals.length co] : List Value).toArray 34 (0, 0)) := hS.at b3
 have hb4 : w.heap[b4]? = some (.cells ([.slice ar (topC c t now rl).bas.rows.length cr, .int .i64 (topC c t now rl).bas.leak, .int .i64 (topC c t now rl).bas.crest, .int .i64 (topC c t now rl).bas.over, .slice ap (topC c t now rl).bas.pols.length cp, .slice af (topC c t now rl).filled.length cf, .slice ah1 (topC c t now rl).hist.length ch1, .slice (some ⟨b39, 0, none⟩) ((topC c t now rl).river).length mm, .int .i64 (topC c t now rl).out, .int .i64 (topC c t now rl).limit, .int .i64 (topC c t now rl).delay] : List Value).toArray 41 (0, 0)) := by rw [hlen]; exact hS.at b4
 have hb5 : w.heap[b5]? = some (.cells ([.int .i64 q.1, .int .i64 q.2, .int .i64 p2.close, .int .i64 p2.opn, .slice au rl.length cu] : List Value).toArray 48 (0, 0)) := hS.at b5
 have hgl := hg.ext hS.ext
 have hse := hSe.ext hS.ext
 have hov1 := hov.ext RInt.stays hS.ext
 have hch : (topC c t now rl).hist = ((posR t now).1.map (Ser.mk t.frm)) := rfl
 clear hi1 hlen
 generalize (topC c t now rl) = c1 at *
 have hE0 := hS.ext
 obtain ⟨w0, hwq⟩ : ∃ wq, wq = w := ⟨w, rfl⟩
 rw [← hwq] at hE0 hb3 hb4 hb5 hT1 hgl hse hov1
 replace hS : StX [] w0 w [] := by rw [hwq]; exact St.start w
 clear hwq
 refine sv (yLdBA h4 isAgg41 sizeOf41 (hS.ext.get hb4) rfl rfl) <| sv (fa48_0 h5) <| sv (yLdBA rfl isAgg43 sizeOf43 (hS.ext.get hb5) rfl rfl) ?_
 refine scall call6 e2 (c_Decide (c := c1) (r := q) (hT1.ext hS.ext)) ?_
 obtain ⟨⟨p, md, ed⟩, hdr⟩ : ∃ z, decR c1 q = z := ⟨_, rfl⟩
 rw [hdr]
 rintro _ w ⟨a9, n9, c9, a8, c8, rfl, hE⟩; replace hS := hS.step hE; clear hE
 refine vM <| sv (yExt rfl rfl) <| sv (yExt rfl rfl) ?_
 refine salloc hS zeroValue57 rfl fun b10 w hS => ?_
 refine sS hS rfl sizeOf57 fun w hS => ?_
 refine vA <| nil <| cwQ <| seq <| seq <| region <| vM <| sv (yNeq rfl rfl) <| vM ?_
 refine sg rfl rfl rfl (fun g => (fa57_0 rfl)) (fun v77 g77 => ?_)
 refine sg rfl rfl rfl (fun g => (fa45_0 (g77.1 g))) (fun v78 g78 => ?_)
 refine sg rfl rfl rfl (fun g => (yLdB (g78.1 g) isAgg3 (hS.at _) rfl)) (fun v79 g79 => ?_)
 refine sg rfl rfl rfl (fun g => (yLss (g79.1 g) rfl)) (fun v80 g80 => ?_)
 refine sv (yOr rfl rfl (fun hB => (g80.1 hB))) <| nil <| cwQ ?_
 refine cond rfl (fun c81 => ?_) (fun c81 => ?_)
 ·
  refine seq <| region ?_
  refine scV hS call5 .nil c_Awake5 fun w hS => ?_
  refine vA <| nil <| cwQ ?_
  refine wp_ret (thenR ?_)
  exact retV (res1 rfl rfl) (hE0.trans hS.ext)
 simp only [Bool.or_eq_false_iff, decide_eq_false_iff_not, Decidable.not_not, ne_eq] at c81
 obtain ⟨hed, hpc⟩ : ed = 0 ∧ 0 ≤ p.close := by simpa using c81
 subst hed
 refine skip <| cwQ <| seq <| region <| sv (yLdBA h4 isAgg41 sizeOf41 (hS.ext.get hb4) rfl rfl) <| sv (fa48_1 h5) <| sv (yLdBA rfl isAgg45 sizeOf45 (hS.ext.get hb5) rfl rfl) ?_
 refine scall call7 e2 (c_Holds (c := c1) (p := p2) (hT1.ext hS.ext)) ?_
 rintro _ w ⟨vl, rfl, hM⟩; replace hS := hS.call1 hM; clear hM
 have hb3 := hS.ext.get hb3
 have hb4 := hS.ext.get hb4
 have hb5 := hS.ext.get hb5
 have hb10 : w.heap[b10]? = some (.cells ([.int .i64 p.close, .int .i64 p.opn, .slice a9 n9 c9, .slice a8 md c8] : List Value).toArray 57 (0, 0)) := hS.at b10
 have hT1 := hT1.ext hS.ext
 have hgl := hgl.ext hS.ext
 have hse := hse.ext hS.ext
 have hov1 := hov1.ext RInt.stays hS.ext
 have hsl : Sl w 1 RBool vl (holdR c1 p2).1 := sl_bools (hS.row vl) rfl
 obtain ⟨al, cl, rfl, hslc, hslm, -⟩ := id hsl
 have hE0 := hE0.trans hS.ext
 obtain ⟨w0, hwq⟩ : ∃ wq, wq = w := ⟨w, rfl⟩
 rw [← hwq] at hE0 hb3 hb4 hb5 hb10 hT1 hgl hse hov1 hsl
 replace hS : StX [] w0 w [] := by rw [hwq]; exact St.start w
 clear hwq
 refine vM <| sv (yExt rfl rfl) <| sv (yExt rfl rfl) <| vA <| vA <| nil <| cwQ ?_
 refine seqJ (n := 170) (fun f w => f 3 = ptQ b3 ∧ f 4 = ptQ b4 ∧ f 5 = ptQ b5 ∧ f 10 = ptQ b10 ∧ StX [] w0 w (([] : List Bx.Item)) ∧ True) ?_ ?_
 ·
  refine seq <| region <| vM <| sv (yEql rfl rfl) <| vM ?_
  refine sg rfl rfl rfl (fun g => (fa48_1 h5)) (fun v93 g93 => ?_)
  refine sg rfl rfl rfl (fun g => (fa45_0 (g93.1 g))) (fun v94 g94 => ?_)
  refine sg rfl rfl rfl (fun g => (yLdB (g94.1 g) isAgg3 (hS.ext.get hb5) rfl)) (fun v95 g95 => ?_)
  refine sg rfl rfl rfl (fun g => (fa57_0 rfl)) (fun v96 g96 => ?_)
  refine sg rfl rfl rfl (fun g => (fa45_0 (g96.1 g))) (fun v97 g97 => ?_)
  refine sg rfl rfl rfl (fun g => (yLdB (g97.1 g) isAgg3 (hS.ext.get hb10) rfl)) (fun v98 g98 => ?_)
  refine sg rfl rfl rfl (fun g => (yGtr (g95.1 g) (g98.1 g))) (fun v99 g99 => ?_)
  refine sv (yAnd rfl (fun hB => (g99.1 hB)) rfl) <| nil <| cwQ ?_
  refine cond rfl (fun c100 => ?_) (fun c100 => ?_)
  ·
   obtain ⟨hh0, hh1⟩ : (holdR c1 p2).2 = 0 ∧ p.close < p2.close := by simpa using c100
   obtain ⟨hhe, hhr⟩ := hold_z hh0
   obtain ⟨kf, hkf, hff⟩ := no_later hdr hpc hh1 hhe
   have haf := all_false hkf hff
   rw [show (List.range c1.hist.length).map (fun k => decide (failC c1 k p2 < 0)) = (holdR c1 p2).1 from by rw [hhr]] at haf
   refine seq <| region <| vA <| nil <| cwQ <| seq <| seq <| region <| vA <| nil <| cwQ <| block <| loop (fun f w zz => ∃ (i : Nat), f 3 = ptQ b3 ∧ f 4 = ptQ b4 ∧ f 5 = ptQ b5 ∧ f 10 = ptQ b10 ∧ f 11 = .slice al (holdR c1 p2).1.length cl ∧ f 12 = .bool (((holdR c1 p2).1.take i).all fun b => b) ∧ f 13 = .int .i64 (i : Int) ∧ StX [] w0 w (([] : List Bx.Item)) ∧ (i ≤ (holdR c1 p2).1.length) ∧ zz = (holdR c1 p2).1.length - i) _ ⟨_, rfl, 0, h3, h4, h5, rfl, rfl, rfl, rfl, hS, (Nat.zero_le _), rfl⟩ ?_
   clear hS
   rintro f w _ ⟨i, h3, h4, h5, h10, h11, h12, h13, hS, hil, rfl⟩
   refine seq <| seq <| region <| sv (yMove h13) <| sv (yMove h11) <| sv (yLen rfl underlying60) <| sv (yLss rfl rfl) <| nil <| cwQ ?_
   refine cond rfl ?_ ?_ <;> intro c104 <;> simp only [BS, ne_eq] at c104
   ·
    have hix : i < (holdR c1 p2).1.length := by omega
    obtain ⟨bv, hbx⟩ : ∃ b, (holdR c1 p2).1[i]? = some b := ⟨_, List.getElem?_eq_getElem hix⟩
    obtain ⟨bq, oq, cq, haq, -, hcq, hRq, -⟩ := sl_at hsl hbx
    obtain rfl := hRq
    refine skip <| cwQ <| seq <| block <| region <| sv (yMove h12) <| vM ?_
    refine sg rfl rfl rfl (fun g => (yMove h11)) (fun v109 g109 => ?_)
    refine sg rfl rfl rfl (fun g => (yMove h13)) (fun v110 g110 => ?_)
    refine sg rfl rfl rfl (fun g => (yIxQ (g109.1 g) haq (g110.1 g) runUnderlying60 sizeOf4)) (fun v111 g111 => ?_)
    refine sg rfl rfl rfl (fun g => (yLd (g111.1 g) isAgg4 (hcq.ext hS.ext).one)) (fun v112 g112 => ?_)
    refine sv (yAnd rfl (fun hB => (g112.1 hB)) rfl) <| vA <| nil <| cwQ <| region <| sv (yMove h13) <| sv (yAddQ rfl rfl) <| vA <| nil ?_
    exact ⟨_, _, rfl, ⟨i + 1, h3, h4, h5, h10, h11, (Eq.trans rfl (congrArg Value.bool (all_take hbx))), rfl, hS, (by omega), rfl⟩, by omega⟩
   obtain rfl : i = (holdR c1 p2).1.length := by omega
   rw [List.take_length] at h12
   rw [haf] at h12
   refine exit <| cwQ <| seq <| region <| sv (yMove h12) <| nil <| cwQ ?_
   refine cond rfl (fun c114 => ?_) (fun c114 => ?_)
   ·
    skip
    cases c114
   skip
   refine skip ?_
   exact ⟨_, rfl, h3, h4, h5, h10, (hS.sub (List.nil_sublist _)), trivial⟩
  refine skip ?_
  exact ⟨_, rfl, h3, h4, h5, rfl, (hS.sub (List.nil_sublist _)), trivial⟩
 clear hS; rintro f w ⟨h3, h4, h5, h10, hS, -⟩
 refine seq <| region <| sv (fa34_0 h3) <| sv (yLdBA rfl isAgg29 sizeOf29 (hS.ext.get hb3) rfl rfl) <| sv (fa34_1 h3) <| sv (yLdB rfl isAgg3 (hS.ext.get hb3) rfl) <| sv (fa34_2 h3) <| sv (yLdBA rfl isAgg32 sizeOf32 (hS.ext.get hb3) rfl rfl) ?_
 refine scV hS call8 e3 (c_Is (s := o) (hse.ext hS.ext) (hgl.ext hS.ext) hnw hof (hov1.ext RInt.stays hS.ext)) fun w hS => ?_
 refine vM <| sv (yExt rfl rfl) <| sv (yExt rfl rfl) <| vA <| vA <| nil <| cwQ <| seq <| seq <| region <| vM <| sv (yNeq rfl rfl) <| vM ?_
 refine sg rfl rfl rfl (fun g => (yMove rfl)) (fun v128 g128 => ?_)
 refine sg rfl rfl rfl (fun g => (yNot (g128.1 g))) (fun v129 g129 => ?_)
 refine sv (yOr rfl rfl (fun hB => (g129.1 hB))) <| nil <| cwQ ?_
 refine cond rfl (fun c130 => ?_) (fun c130 => ?_)
 ·
  refine seq <| region ?_
  refine scV hS call5 .nil c_Awake5 fun w hS => ?_
  refine vA <| nil <| cwQ ?_
  refine wp_ret (thenR ?_)
  exact retV (res1 rfl rfl) (hE0.trans hS.ext)
 obtain ⟨hi0, hit⟩ : (isR t now o).2 = 0 ∧ (isR t now o).1 = true := by simpa using c130
 obtain ⟨hz1, hz2, hz3⟩ := top_sea hch hp0 hdr hpc hi0 hit
 refine skip <| cwQ <| seq <| region <| sv (yLdBA h4 isAgg41 sizeOf41 (hS.ext.get hb4) rfl rfl) ?_
 refine salloc hS zeroValue41 rfl fun b15 w hS => ?_
 refine sS hS rfl sizeOf41 fun w hS => ?_
 refine nil <| cwQ <| seq <| region <| sv (fa34_2 h3) <| sv (yLdBA rfl isAgg32 sizeOf32 (hS.ext.get hb3) rfl rfl) ?_
 refine sbslice hS underlying39 sizeOf32 rfl zeroValue32 rfl (.cons rfl rfl .nil) rfl fun b135 w hS => ?_
 refine sv (fa41_2 rfl) ?_
 refine sS hS rfl sizeOf39 fun w hS => ?_
 refine nil <| cwQ <| seq <| region <| sv (yLdBA rfl isAgg41 sizeOf41 (hS.at _) rfl rfl) <| sv (fa57_0 h10) <| sv (yLdBA rfl isAgg45 sizeOf45 (hS.ext.get hb10) rfl rfl) ?_
 have hso : Sl w 2 RSer (.slice (some ⟨b135, 0, none⟩) 1 1) [o] := sl_of_blk (hS.at b135) (css := [[.int .i64 o.frm, .slice ao o.vals.length co]]) (l := [o]) rfl ⟨rfl, ⟨_, rfl, hof, hov1.ext RInt.stays hS.ext⟩, trivial⟩ (by simp) rfl
 have hTs := solo_row (hT1.ext hS.ext) hso
 refine scall call9 e3 (c_Inner (c := soloC c1 o) (kk := 0) (p := p) hTs) ?_
 rintro _ w ⟨vs, rfl, hM⟩; replace hS := hS.call1 hM; clear hM
 obtain ⟨avs, cvs, rfl⟩ := row_shape (hS.row vs)
 refine vM <| sv (yExt rfl rfl) <| sv (yExt rfl rfl) <| vA <| vA <| nil <| cwQ <| seq <| seq <| region <| vM <| sv (yNeq rfl rfl) <| vM ?_
 refine sg rfl rfl rfl (fun g => (yMove rfl)) (fun v147 g147 => ?_)
 refine sg rfl rfl rfl (fun g => (yLen (g147.1 g) underlying65)) (fun v148 g148 => ?_)
 refine sg rfl rfl rfl (fun g => (fa34_2 h3)) (fun v149 g149 => ?_)
 refine sg rfl rfl rfl (fun g => (fa32_1 (g149.1 g))) (fun v150 g150 => ?_)
 refine sg rfl rfl rfl (fun g => (yLdB (g150.1 g) isAgg30 (hS.ext.get hb3) rfl)) (fun v151 g151 => ?_)
 refine sg rfl rfl rfl (fun g => (yLen (g151.1 g) underlying30)) (fun v152 g152 => ?_)
 refine sg rfl rfl rfl (fun g => (yNeq (g148.1 g) (g152.1 g))) (fun v153 g153 => ?_)
 refine sv (yOr rfl rfl (fun hB => (g153.1 hB))) <| nil <| cwQ ?_
 refine cond rfl (fun c154 => ?_) (fun c154 => ?_)
 ·
  exfalso; rw [hz1, hz2] at c154; simp at c154
 refine skip <| cwQ <| seq <| seq <| region <| vA <| nil <| cwQ <| block <| loop (fun f w zz => ∃ (i : Nat), f 3 = ptQ b3 ∧ f 4 = ptQ b4 ∧ f 5 = ptQ b5 ∧ f 10 = ptQ b10 ∧ f 16 = .slice avs (innR (soloC c1 o) 0 p).1.length cvs ∧ f 17 = .int .i64 (i : Int) ∧ StX [] w0 w (rowI (.slice avs (innR (soloC c1 o) 0 p).1.length cvs) 69 2 (innR (soloC c1 o) 0 p).1.length ((innR (soloC c1 o) 0 p).1.flatMap spanC) :: ([] : List Bx.Item)) ∧ (i ≤ (innR (soloC c1 o) 0 p).1.length) ∧ zz = (innR (soloC c1 o) 0 p).1.length - i) _ ⟨_, rfl, 0, h3, h4, h5, h10, rfl, rfl, (hS.sub (.cons_cons _ (List.nil_sublist _))), (Nat.zero_le _), rfl⟩ ?_
 clear hS
 rintro f w _ ⟨i, h3, h4, h5, h10, h16, h17, hS, hil, rfl⟩
 refine seq <| seq <| region <| sv (yMove h17) <| sv (yMove h16) <| sv (yLen rfl underlying65) <| sv (yLss rfl rfl) <| nil <| cwQ ?_
 refine cond rfl ?_ ?_ <;> intro c158 <;> simp only [BS, ne_eq] at c158
 ·
  have hix : i < (innR (soloC c1 o) 0 p).1.length := by omega
  obtain ⟨s, hsx⟩ : ∃ s, (innR (soloC c1 o) 0 p).1[i]? = some s := ⟨_, List.getElem?_eq_getElem hix⟩
  have hsm := hz3 s (List.mem_of_getElem? hsx)
  obtain ⟨gb, rfl, -⟩ := row_get (hS.row (.slice avs (innR (soloC c1 o) 0 p).1.length cvs)) (by omega)
  refine skip <| cwQ <| seq <| block <| seq <| region_draw mixed (by kernel_rfl) hS <| qv (fun w hS => yMove h16) <| qv (fun w hS => yMove h17) <| qv (fun w hS => yIx0 (m := i) rfl rfl runUnderlying65 sizeOf69 (by omega)) <| qv (fun w hS => fa69_1 rfl) <| qv (fun w hS => yLd rfl isAgg3 ((flat_cells0 (enc := spanC) spanC_len (row_at (hS.row (.slice (some ⟨gb, 0, none⟩) (innR (soloC c1 o) 0 p).1.length cvs)) rfl (by omega)) hsx).at (j := 1) rfl)) <| qv (fun w hS => fa41_5 h4) <| qv (fun w hS => yLdB rfl isAgg3 (hS.ext.get hb4) rfl) ?_
  refine qv (fun w hS => yGtr rfl rfl) ?_
  clear hS; refine qnil (fun w hS => ?_)
  refine cwQ ?_
  refine cond rfl ?_ ?_ <;> intro c168 <;> simp only [BS, ne_eq] at c168
  ·
   exfalso; omega
  refine skip <| cwQ <| region <| sv (yMove h17) <| sv (yAddQ rfl rfl) <| vA <| nil ?_
  exact ⟨_, _, rfl, ⟨i + 1, h3, h4, h5, h10, h16, rfl, hS, (by omega), rfl⟩, by omega⟩
 refine exit <| cwQ <| seq <| region ?_
 refine scV hS call5 .nil c_Awake5 fun w hS => ?_
 refine vA <| nil <| cwQ <| wp_ret ?_
 exact retV (res1 rfl rfl) (hE0.trans hS.ext)
abbrev FdQ {H : Type} (enc : TypeId × Value → H) (w : World) (base : Nat) (spare : Nat → Bool) (held : Bool) (n : Nat) (ft : TypeId) (cs : List Value) : Prop := ∃ y, DataW.trod enc Tryz.prog w base spare held n ft cs = some y ∧ WOk Tryz.prog ft y.1
theorem rdQ {H : Type} {enc : TypeId × Value → H} {w : World} {base : Nat} {spare : Nat → Bool} {held : Bool} {n k : Nat} {ft : TypeId} {cs : List Value} (hz : Tryz.prog.cellsOf ft = k) (h : ∃ y, DataW.trod enc Tryz.prog w base spare held n ft (cs.take (Tryz.prog.cellsOf ft)) = some y ∧ WOk Tryz.prog ft y.1) : FdQ enc w base spare held n ft (cs.take k) := by rw [hz] at h; exact h
section
variable {H : Type} {enc : TypeId × Value → H} {w : World} {base : Nat} {spare : Nat → Bool} {held : Bool} {fuel : Nat} {cs : List Value} {x : DataW H × List MemPlace}
theorem rdF24 (h : DataW.trod enc Tryz.prog w base spare held fuel 24 cs = some x) (hW : WOk Tryz.prog 24 x.1) : ∃ n c0 c1, cs = [c0, c1] ∧ FdQ enc w base spare held n 3 [c0] ∧ FdQ enc w base spare held n 22 [c1] := by
 have z3 : Tryz.prog.cellsOf 3 = 1 := by kernel_rfl
 have z22 : Tryz.prog.cellsOf 22 = 1 := by kernel_rfl
 obtain ⟨hl, n, hf⟩ := rdw_fields Tryz.underlying24 h hW
 have hz : Tryz.prog.cellsOf 24 = 2 := by kernel_rfl
 rw [hz] at hl
 obtain ⟨c0, c1, rfl⟩ := two_of hl
 exact ⟨n, c0, c1, rfl, rdQ z3 (hf 0 _ rfl), rdQ z22 (hf 1 _ rfl)⟩
theorem rdLen12_of {cs : List Value} (h : cs.length = 12) : ∃ c0 c1 c2 c3 c4 c5 c6 c7 c8 c9 c10 c11, cs = [c0, c1, c2, c3, c4, c5, c6, c7, c8, c9, c10, c11] := by
 match cs, h with
 | [c0, c1, c2, c3, c4, c5, c6, c7, c8, c9, c10, c11], _ => exact ⟨c0, c1, c2, c3, c4, c5, c6, c7, c8, c9, c10, c11, rfl⟩
theorem rdF29 (h : DataW.trod enc Tryz.prog w base spare held fuel 29 cs = some x) (hW : WOk Tryz.prog 29 x.1) : ∃ n c0 c1 c2 c3 c4 c5 c6 c7 c8 c9 c10 c11, cs = [c0, c1, c2, c3, c4, c5, c6, c7, c8, c9, c10, c11] ∧ FdQ enc w base spare held n 24 [c0, c1] ∧ FdQ enc w base spare held n 25 [c2] ∧ FdQ enc w base spare held n 3 [c3] ∧ FdQ enc w base spare held n 3 [c4] ∧ FdQ enc w base spare held n 3 [c5] ∧ FdQ enc w base spare held n 26 [c6] ∧ FdQ enc w base spare held n 27 [c7] ∧ FdQ enc w base spare held n 3 [c8] ∧ FdQ enc w base spare held n 3 [c9] ∧ FdQ enc w base spare held n 3 [c10] ∧ FdQ enc w base spare held n 3 [c11] := by
 have z3 : Tryz.prog.cellsOf 3 = 1 := by kernel_rfl
 have z24 : Tryz.prog.cellsOf 24 = 2 := by kernel_rfl
 have z25 : Tryz.prog.cellsOf 25 = 1 := by kernel_rfl
 have z26 : Tryz.prog.cellsOf 26 = 1 := by kernel_rfl
 have z27 : Tryz.prog.cellsOf 27 = 1 := by kernel_rfl
 obtain ⟨hl, n, hf⟩ := rdw_fields Tryz.underlying29 h hW
 have hz : Tryz.prog.cellsOf 29 = 12 := by kernel_rfl
 rw [hz] at hl
 obtain ⟨c0, c1, c2, c3, c4, c5, c6, c7, c8, c9, c10, c11, rfl⟩ := rdLen12_of hl
 exact ⟨n, c0, c1, c2, c3, c4, c5, c6, c7, c8, c9, c10, c11, rfl, rdQ z24 (hf 0 _ rfl), rdQ z25 (hf 1 _ rfl), rdQ z3 (hf 2 _ rfl), rdQ z3 (hf 3 _ rfl), rdQ z3 (hf 4 _ rfl), rdQ z26 (hf 5 _ rfl), rdQ z27 (hf 6 _ rfl), rdQ z3 (hf 7 _ rfl), rdQ z3 (hf 8 _ rfl), rdQ z3 (hf 9 _ rfl), rdQ z3 (hf 10 _ rfl)⟩
theorem rdF32 (h : DataW.trod enc Tryz.prog w base spare held fuel 32 cs = some x) (hW : WOk Tryz.prog 32 x.1) : ∃ n c0 c1, cs = [c0, c1] ∧ FdQ enc w base spare held n 3 [c0] ∧ FdQ enc w base spare held n 30 [c1] := by
 have z3 : Tryz.prog.cellsOf 3 = 1 := by kernel_rfl
 have z30 : Tryz.prog.cellsOf 30 = 1 := by kernel_rfl
 obtain ⟨hl, n, hf⟩ := rdw_fields Tryz.underlying32 h hW
 have hz : Tryz.prog.cellsOf 32 = 2 := by kernel_rfl
 rw [hz] at hl
 obtain ⟨c0, c1, rfl⟩ := two_of hl
 exact ⟨n, c0, c1, rfl, rdQ z3 (hf 0 _ rfl), rdQ z30 (hf 1 _ rfl)⟩
theorem rdLen15_of {cs : List Value} (h : cs.length = 15) : ∃ c0 c1 c2 c3 c4 c5 c6 c7 c8 c9 c10 c11 c12 c13 c14, cs = [c0, c1, c2, c3, c4, c5, c6, c7, c8, c9, c10, c11, c12, c13, c14] := by
 match cs, h with
 | [c0, c1, c2, c3, c4, c5, c6, c7, c8, c9, c10, c11, c12, c13, c14], _ => exact ⟨c0, c1, c2, c3, c4, c5, c6, c7, c8, c9, c10, c11, c12, c13, c14, rfl⟩
theorem rdF34 (h : DataW.trod enc Tryz.prog w base spare held fuel 34 cs = some x) (hW : WOk Tryz.prog 34 x.1) : ∃ n c0 c1 c2 c3 c4 c5 c6 c7 c8 c9 c10 c11 c12 c13 c14, cs = [c0, c1, c2, c3, c4, c5, c6, c7, c8, c9, c10, c11, c12, c13, c14] ∧ FdQ enc w base spare held n 29 [c0, c1, c2, c3, c4, c5, c6, c7, c8, c9, c10, c11] ∧ FdQ enc w base spare held n 3 [c12] ∧ FdQ enc w base spare held n 32 [c13, c14] := by
 have z3 : Tryz.prog.cellsOf 3 = 1 := by kernel_rfl
 have z29 : Tryz.prog.cellsOf 29 = 12 := by kernel_rfl
 have z32 : Tryz.prog.cellsOf 32 = 2 := by kernel_rfl
 obtain ⟨hl, n, hf⟩ := rdw_fields Tryz.underlying34 h hW
 have hz : Tryz.prog.cellsOf 34 = 15 := by kernel_rfl
 rw [hz] at hl
 obtain ⟨c0, c1, c2, c3, c4, c5, c6, c7, c8, c9, c10, c11, c12, c13, c14, rfl⟩ := rdLen15_of hl
 exact ⟨n, c0, c1, c2, c3, c4, c5, c6, c7, c8, c9, c10, c11, c12, c13, c14, rfl, rdQ z29 (hf 0 _ rfl), rdQ z3 (hf 1 _ rfl), rdQ z32 (hf 2 _ rfl)⟩
theorem rdF38 (h : DataW.trod enc Tryz.prog w base spare held fuel 38 cs = some x) (hW : WOk Tryz.prog 38 x.1) : ∃ n c0 c1 c2 c3 c4, cs = [c0, c1, c2, c3, c4] ∧ FdQ enc w base spare held n 35 [c0] ∧ FdQ enc w base spare held n 3 [c1] ∧ FdQ enc w base spare held n 3 [c2] ∧ FdQ enc w base spare held n 3 [c3] ∧ FdQ enc w base spare held n 36 [c4] := by
 have z3 : Tryz.prog.cellsOf 3 = 1 := by kernel_rfl
 have z35 : Tryz.prog.cellsOf 35 = 1 := by kernel_rfl
 have z36 : Tryz.prog.cellsOf 36 = 1 := by kernel_rfl
 obtain ⟨hl, n, hf⟩ := rdw_fields Tryz.underlying38 h hW
 have hz : Tryz.prog.cellsOf 38 = 5 := by kernel_rfl
 rw [hz] at hl
 obtain ⟨c0, c1, c2, c3, c4, rfl⟩ := five_of hl
 exact ⟨n, c0, c1, c2, c3, c4, rfl, rdQ z35 (hf 0 _ rfl), rdQ z3 (hf 1 _ rfl), rdQ z3 (hf 2 _ rfl), rdQ z3 (hf 3 _ rfl), rdQ z36 (hf 4 _ rfl)⟩
theorem rdLen11_of {cs : List Value} (h : cs.length = 11) : ∃ c0 c1 c2 c3 c4 c5 c6 c7 c8 c9 c10, cs = [c0, c1, c2, c3, c4, c5, c6, c7, c8, c9, c10] := by
 match cs, h with
 | [c0, c1, c2, c3, c4, c5, c6, c7, c8, c9, c10], _ => exact ⟨c0, c1, c2, c3, c4, c5, c6, c7, c8, c9, c10, rfl⟩
theorem rdF41 (h : DataW.trod enc Tryz.prog w base spare held fuel 41 cs = some x) (hW : WOk Tryz.prog 41 x.1) : ∃ n c0 c1 c2 c3 c4 c5 c6 c7 c8 c9 c10, cs = [c0, c1, c2, c3, c4, c5, c6, c7, c8, c9, c10] ∧ FdQ enc w base spare held n 38 [c0, c1, c2, c3, c4] ∧ FdQ enc w base spare held n 30 [c5] ∧ FdQ enc w base spare held n 39 [c6] ∧ FdQ enc w base spare held n 30 [c7] ∧ FdQ enc w base spare held n 3 [c8] ∧ FdQ enc w base spare held n 3 [c9] ∧ FdQ enc w base spare held n 3 [c10] := by
 have z3 : Tryz.prog.cellsOf 3 = 1 := by kernel_rfl
 have z30 : Tryz.prog.cellsOf 30 = 1 := by kernel_rfl
 have z38 : Tryz.prog.cellsOf 38 = 5 := by kernel_rfl
 have z39 : Tryz.prog.cellsOf 39 = 1 := by kernel_rfl
 obtain ⟨hl, n, hf⟩ := rdw_fields Tryz.underlying41 h hW
 have hz : Tryz.prog.cellsOf 41 = 11 := by kernel_rfl
 rw [hz] at hl
 obtain ⟨c0, c1, c2, c3, c4, c5, c6, c7, c8, c9, c10, rfl⟩ := rdLen11_of hl
 exact ⟨n, c0, c1, c2, c3, c4, c5, c6, c7, c8, c9, c10, rfl, rdQ z38 (hf 0 _ rfl), rdQ z30 (hf 1 _ rfl), rdQ z39 (hf 2 _ rfl), rdQ z30 (hf 3 _ rfl), rdQ z3 (hf 4 _ rfl), rdQ z3 (hf 5 _ rfl), rdQ z3 (hf 6 _ rfl)⟩
theorem rdF43 (h : DataW.trod enc Tryz.prog w base spare held fuel 43 cs = some x) (hW : WOk Tryz.prog 43 x.1) : ∃ n c0 c1, cs = [c0, c1] ∧ FdQ enc w base spare held n 3 [c0] ∧ FdQ enc w base spare held n 3 [c1] := by
 have z3 : Tryz.prog.cellsOf 3 = 1 := by kernel_rfl
 obtain ⟨hl, n, hf⟩ := rdw_fields Tryz.underlying43 h hW
 have hz : Tryz.prog.cellsOf 43 = 2 := by kernel_rfl
 rw [hz] at hl
 obtain ⟨c0, c1, rfl⟩ := two_of hl
 exact ⟨n, c0, c1, rfl, rdQ z3 (hf 0 _ rfl), rdQ z3 (hf 1 _ rfl)⟩
theorem rdF45 (h : DataW.trod enc Tryz.prog w base spare held fuel 45 cs = some x) (hW : WOk Tryz.prog 45 x.1) : ∃ n c0 c1, cs = [c0, c1] ∧ FdQ enc w base spare held n 3 [c0] ∧ FdQ enc w base spare held n 3 [c1] := by
 have z3 : Tryz.prog.cellsOf 3 = 1 := by kernel_rfl
 obtain ⟨hl, n, hf⟩ := rdw_fields Tryz.underlying45 h hW
 have hz : Tryz.prog.cellsOf 45 = 2 := by kernel_rfl
 rw [hz] at hl
 obtain ⟨c0, c1, rfl⟩ := two_of hl
 exact ⟨n, c0, c1, rfl, rdQ z3 (hf 0 _ rfl), rdQ z3 (hf 1 _ rfl)⟩
theorem rdF48 (h : DataW.trod enc Tryz.prog w base spare held fuel 48 cs = some x) (hW : WOk Tryz.prog 48 x.1) : ∃ n c0 c1 c2 c3 c4, cs = [c0, c1, c2, c3, c4] ∧ FdQ enc w base spare held n 43 [c0, c1] ∧ FdQ enc w base spare held n 45 [c2, c3] ∧ FdQ enc w base spare held n 46 [c4] := by
 have z43 : Tryz.prog.cellsOf 43 = 2 := by kernel_rfl
 have z45 : Tryz.prog.cellsOf 45 = 2 := by kernel_rfl
 have z46 : Tryz.prog.cellsOf 46 = 1 := by kernel_rfl
 obtain ⟨hl, n, hf⟩ := rdw_fields Tryz.underlying48 h hW
 have hz : Tryz.prog.cellsOf 48 = 5 := by kernel_rfl
 rw [hz] at hl
 obtain ⟨c0, c1, c2, c3, c4, rfl⟩ := five_of hl
 exact ⟨n, c0, c1, c2, c3, c4, rfl, rdQ z43 (hf 0 _ rfl), rdQ z45 (hf 1 _ rfl), rdQ z46 (hf 2 _ rfl)⟩
theorem rdF69 (h : DataW.trod enc Tryz.prog w base spare held fuel 69 cs = some x) (hW : WOk Tryz.prog 69 x.1) : ∃ n c0 c1, cs = [c0, c1] ∧ FdQ enc w base spare held n 3 [c0] ∧ FdQ enc w base spare held n 3 [c1] := by
 have z3 : Tryz.prog.cellsOf 3 = 1 := by kernel_rfl
 obtain ⟨hl, n, hf⟩ := rdw_fields Tryz.underlying69 h hW
 have hz : Tryz.prog.cellsOf 69 = 2 := by kernel_rfl
 rw [hz] at hl
 obtain ⟨c0, c1, rfl⟩ := two_of hl
 exact ⟨n, c0, c1, rfl, rdQ z3 (hf 0 _ rfl), rdQ z3 (hf 1 _ rfl)⟩
theorem rdF118 (h : DataW.trod enc Tryz.prog w base spare held fuel 118 cs = some x) (hW : WOk Tryz.prog 118 x.1) : ∃ n c0 c1 c2 c3, cs = [c0, c1, c2, c3] ∧ FdQ enc w base spare held n 9 [c0] ∧ FdQ enc w base spare held n 3 [c1] ∧ FdQ enc w base spare held n 3 [c2] ∧ FdQ enc w base spare held n 3 [c3] := by
 have z3 : Tryz.prog.cellsOf 3 = 1 := by kernel_rfl
 have z9 : Tryz.prog.cellsOf 9 = 1 := by kernel_rfl
 obtain ⟨hl, n, hf⟩ := rdw_fields Tryz.underlying118 h hW
 have hz : Tryz.prog.cellsOf 118 = 4 := by kernel_rfl
 rw [hz] at hl
 obtain ⟨c0, c1, c2, c3, rfl⟩ := four_of hl
 exact ⟨n, c0, c1, c2, c3, rfl, rdQ z9 (hf 0 _ rfl), rdQ z3 (hf 1 _ rfl), rdQ z3 (hf 2 _ rfl), rdQ z3 (hf 3 _ rfl)⟩
theorem rdF121 (h : DataW.trod enc Tryz.prog w base spare held fuel 121 cs = some x) (hW : WOk Tryz.prog 121 x.1) : ∃ n c0 c1 c2 c3, cs = [c0, c1, c2, c3] ∧ FdQ enc w base spare held n 3 [c0] ∧ FdQ enc w base spare held n 3 [c1] ∧ FdQ enc w base spare held n 3 [c2] ∧ FdQ enc w base spare held n 119 [c3] := by
 have z3 : Tryz.prog.cellsOf 3 = 1 := by kernel_rfl
 have z119 : Tryz.prog.cellsOf 119 = 1 := by kernel_rfl
 obtain ⟨hl, n, hf⟩ := rdw_fields Tryz.underlying121 h hW
 have hz : Tryz.prog.cellsOf 121 = 4 := by kernel_rfl
 rw [hz] at hl
 obtain ⟨c0, c1, c2, c3, rfl⟩ := four_of hl
 exact ⟨n, c0, c1, c2, c3, rfl, rdQ z3 (hf 0 _ rfl), rdQ z3 (hf 1 _ rfl), rdQ z3 (hf 2 _ rfl), rdQ z119 (hf 3 _ rfl)⟩
theorem rdF171 (h : DataW.trod enc Tryz.prog w base spare held fuel 171 cs = some x) (hW : WOk Tryz.prog 171 x.1) : ∃ n c0 c1, cs = [c0, c1] ∧ FdQ enc w base spare held n 3 [c0] ∧ FdQ enc w base spare held n 3 [c1] := by
 have z3 : Tryz.prog.cellsOf 3 = 1 := by kernel_rfl
 obtain ⟨hl, n, hf⟩ := rdw_fields Tryz.underlying171 h hW
 have hz : Tryz.prog.cellsOf 171 = 2 := by kernel_rfl
 rw [hz] at hl
 obtain ⟨c0, c1, rfl⟩ := two_of hl
 exact ⟨n, c0, c1, rfl, rdQ z3 (hf 0 _ rfl), rdQ z3 (hf 1 _ rfl)⟩
theorem rdF173 (h : DataW.trod enc Tryz.prog w base spare held fuel 173 cs = some x) (hW : WOk Tryz.prog 173 x.1) : ∃ n c0 c1 c2 c3, cs = [c0, c1, c2, c3] ∧ FdQ enc w base spare held n 9 [c0] ∧ FdQ enc w base spare held n 3 [c1] ∧ FdQ enc w base spare held n 3 [c2] ∧ FdQ enc w base spare held n 3 [c3] := by
 have z3 : Tryz.prog.cellsOf 3 = 1 := by kernel_rfl
 have z9 : Tryz.prog.cellsOf 9 = 1 := by kernel_rfl
 obtain ⟨hl, n, hf⟩ := rdw_fields Tryz.underlying173 h hW
 have hz : Tryz.prog.cellsOf 173 = 4 := by kernel_rfl
 rw [hz] at hl
 obtain ⟨c0, c1, c2, c3, rfl⟩ := four_of hl
 exact ⟨n, c0, c1, c2, c3, rfl, rdQ z9 (hf 0 _ rfl), rdQ z3 (hf 1 _ rfl), rdQ z3 (hf 2 _ rfl), rdQ z3 (hf 3 _ rfl)⟩
theorem rdF201 (h : DataW.trod enc Tryz.prog w base spare held fuel 201 cs = some x) (hW : WOk Tryz.prog 201 x.1) : ∃ n c0 c1 c2 c3 c4, cs = [c0, c1, c2, c3, c4] ∧ FdQ enc w base spare held n 9 [c0] ∧ FdQ enc w base spare held n 3 [c1] ∧ FdQ enc w base spare held n 3 [c2] ∧ FdQ enc w base spare held n 198 [c3] ∧ FdQ enc w base spare held n 199 [c4] := by
 have z3 : Tryz.prog.cellsOf 3 = 1 := by kernel_rfl
 have z9 : Tryz.prog.cellsOf 9 = 1 := by kernel_rfl
 have z198 : Tryz.prog.cellsOf 198 = 1 := by kernel_rfl
 have z199 : Tryz.prog.cellsOf 199 = 1 := by kernel_rfl
 obtain ⟨hl, n, hf⟩ := rdw_fields Tryz.underlying201 h hW
 have hz : Tryz.prog.cellsOf 201 = 5 := by kernel_rfl
 rw [hz] at hl
 obtain ⟨c0, c1, c2, c3, c4, rfl⟩ := five_of hl
 exact ⟨n, c0, c1, c2, c3, c4, rfl, rdQ z9 (hf 0 _ rfl), rdQ z3 (hf 1 _ rfl), rdQ z3 (hf 2 _ rfl), rdQ z198 (hf 3 _ rfl), rdQ z199 (hf 4 _ rfl)⟩
theorem rdF214 (h : DataW.trod enc Tryz.prog w base spare held fuel 214 cs = some x) (hW : WOk Tryz.prog 214 x.1) : ∃ n c0 c1 c2 c3 c4 c5, cs = [c0, c1, c2, c3, c4, c5] ∧ FdQ enc w base spare held n 9 [c0] ∧ FdQ enc w base spare held n 30 [c1] ∧ FdQ enc w base spare held n 3 [c2] ∧ FdQ enc w base spare held n 3 [c3] ∧ FdQ enc w base spare held n 3 [c4] ∧ FdQ enc w base spare held n 3 [c5] := by
 have z3 : Tryz.prog.cellsOf 3 = 1 := by kernel_rfl
 have z9 : Tryz.prog.cellsOf 9 = 1 := by kernel_rfl
 have z30 : Tryz.prog.cellsOf 30 = 1 := by kernel_rfl
 obtain ⟨hl, n, hf⟩ := rdw_fields Tryz.underlying214 h hW
 have hz : Tryz.prog.cellsOf 214 = 6 := by kernel_rfl
 rw [hz] at hl
 obtain ⟨c0, c1, c2, c3, c4, c5, rfl⟩ := six_of hl
 exact ⟨n, c0, c1, c2, c3, c4, c5, rfl, rdQ z9 (hf 0 _ rfl), rdQ z30 (hf 1 _ rfl), rdQ z3 (hf 2 _ rfl), rdQ z3 (hf 3 _ rfl), rdQ z3 (hf 4 _ rfl), rdQ z3 (hf 5 _ rfl)⟩
theorem rdF241 (h : DataW.trod enc Tryz.prog w base spare held fuel 241 cs = some x) (hW : WOk Tryz.prog 241 x.1) : ∃ n c0 c1 c2, cs = [c0, c1, c2] ∧ FdQ enc w base spare held n 3 [c0] ∧ FdQ enc w base spare held n 69 [c1, c2] := by
 have z3 : Tryz.prog.cellsOf 3 = 1 := by kernel_rfl
 have z69 : Tryz.prog.cellsOf 69 = 2 := by kernel_rfl
 obtain ⟨hl, n, hf⟩ := rdw_fields Tryz.underlying241 h hW
 have hz : Tryz.prog.cellsOf 241 = 3 := by kernel_rfl
 rw [hz] at hl
 obtain ⟨c0, c1, c2, rfl⟩ := three_of hl
 exact ⟨n, c0, c1, c2, rfl, rdQ z3 (hf 0 _ rfl), rdQ z69 (hf 1 _ rfl)⟩
theorem rdF243 (h : DataW.trod enc Tryz.prog w base spare held fuel 243 cs = some x) (hW : WOk Tryz.prog 243 x.1) : ∃ n c0 c1, cs = [c0, c1] ∧ FdQ enc w base spare held n 3 [c0] ∧ FdQ enc w base spare held n 3 [c1] := by
 have z3 : Tryz.prog.cellsOf 3 = 1 := by kernel_rfl
 obtain ⟨hl, n, hf⟩ := rdw_fields Tryz.underlying243 h hW
 have hz : Tryz.prog.cellsOf 243 = 2 := by kernel_rfl
 rw [hz] at hl
 obtain ⟨c0, c1, rfl⟩ := two_of hl
 exact ⟨n, c0, c1, rfl, rdQ z3 (hf 0 _ rfl), rdQ z3 (hf 1 _ rfl)⟩
end
theorem rd_Ints : RdW Tryz.prog 30 (fun w cs (l : List Int) => ∃ v, cs = [v] ∧ Sl w 1 RInt v l ∧ l.length * 8 ≤ 140737488351232) := rdw_slice (Rd.w (rd_int Tryz.underlying3)) (by kernel_rfl) (by decide) Tryz.underlying30 (by kernel_rfl)
theorem rd_Row : RdW Tryz.prog 30 RRow := fun H enc w base spare held fuel cs x h hW => by obtain ⟨a, v, e, i, -⟩ := rd_Ints H enc w base spare held fuel cs x h hW; exact ⟨a, v, e, i⟩
theorem rd_Rows : RdW Tryz.prog 119 (fun w cs (l : List (List Int)) => ∃ v, cs = [v] ∧ Sl w 1 RRow v l ∧ l.length * 24 ≤ 140737488351232) := rdw_slice rd_Row (by kernel_rfl) (by decide) Tryz.underlying119 (by kernel_rfl)
theorem rd_Span : RdW Tryz.prog 69 RSpan := by
 intro H enc w base spare held fuel cs x h hW
 obtain ⟨n, c0, c1, rfl, ⟨y0, f0, k0⟩, ⟨y1, f1, k1⟩⟩ := rdF69 h hW
 obtain ⟨a0, g0⟩ := (Rd.w (rd_int Tryz.underlying3)) _ _ _ _ _ _ _ _ _ f0 k0
 obtain ⟨a1, g1⟩ := (Rd.w (rd_int Tryz.underlying3)) _ _ _ _ _ _ _ _ _ f1 k1
 obtain ⟨e0, i0⟩ := g0; obtain ⟨e1, i1⟩ := g1; cases e0; cases e1; exact ⟨⟨a0, a1⟩, rfl, i0, i1⟩
theorem rd_Datum : RdW Tryz.prog 241 RDatum := by
 intro H enc w base spare held fuel cs x h hW
 obtain ⟨n, c0, c1, c2, rfl, ⟨y0, f0, k0⟩, ⟨y1, f1, k1⟩⟩ := rdF241 h hW
 obtain ⟨a0, g0⟩ := (Rd.w (rd_int Tryz.underlying3)) _ _ _ _ _ _ _ _ _ f0 k0
 obtain ⟨a1, g1⟩ := rd_Span _ _ _ _ _ _ _ _ _ f1 k1
 obtain ⟨e0, i0⟩ := g0; obtain ⟨e1, i1, i2⟩ := g1; cases e0; cases e1; exact ⟨⟨a0, a1⟩, rfl, i0, i1, i2⟩
theorem rd_Datums : RdW Tryz.prog 198 (fun w cs (l : List Datum) => ∃ v, cs = [v] ∧ Sl w 3 RDatum v l ∧ l.length * 24 ≤ 140737488351232) := rdw_slice rd_Datum (by kernel_rfl) (by decide) Tryz.underlying198 (by kernel_rfl)
theorem rd_Reading : RdW Tryz.prog 243 RRead := by
 intro H enc w base spare held fuel cs x h hW
 obtain ⟨n, c0, c1, rfl, ⟨y0, f0, k0⟩, ⟨y1, f1, k1⟩⟩ := rdF243 h hW
 obtain ⟨a0, g0⟩ := (Rd.w (rd_int Tryz.underlying3)) _ _ _ _ _ _ _ _ _ f0 k0
 obtain ⟨a1, g1⟩ := (Rd.w (rd_int Tryz.underlying3)) _ _ _ _ _ _ _ _ _ f1 k1
 obtain ⟨e0, i0⟩ := g0; obtain ⟨e1, i1⟩ := g1; cases e0; cases e1; exact ⟨⟨a0, a1⟩, rfl, i0, i1⟩
theorem rd_Readings : RdW Tryz.prog 199 (fun w cs (l : List Reading) => ∃ v, cs = [v] ∧ Sl w 2 RRead v l ∧ l.length * 16 ≤ 140737488351232) := rdw_slice rd_Reading (by kernel_rfl) (by decide) Tryz.underlying199 (by kernel_rfl)
theorem rd_Gauge : RdW Tryz.prog 201 RGauge := by
 intro H enc w base spare held fuel cs x h hW
 obtain ⟨n, c0, c1, c2, c3, c4, rfl, ⟨y0, f0, k0⟩, ⟨y1, f1, k1⟩, ⟨y2, f2, k2⟩, ⟨y3, f3, k3⟩, ⟨y4, f4, k4⟩⟩ := rdF201 h hW
 obtain ⟨a0, g0⟩ := (Rd.w (rd_str Tryz.underlying9)) _ _ _ _ _ _ _ _ _ f0 k0
 obtain ⟨a1, g1⟩ := (Rd.w (rd_int Tryz.underlying3)) _ _ _ _ _ _ _ _ _ f1 k1
 obtain ⟨a2, g2⟩ := (Rd.w (rd_int Tryz.underlying3)) _ _ _ _ _ _ _ _ _ f2 k2
 obtain ⟨a3, g3⟩ := rd_Datums _ _ _ _ _ _ _ _ _ f3 k3
 obtain ⟨a4, g4⟩ := rd_Readings _ _ _ _ _ _ _ _ _ f4 k4
 obtain ⟨e0, i0⟩ := g0; obtain ⟨e1, i1⟩ := g1; obtain ⟨e2, i2⟩ := g2; obtain ⟨v3, e3, i3, r3⟩ := g3; obtain ⟨v4, e4, i4, r4⟩ := g4; cases e0; cases e1; cases e2; cases e3; cases e4; exact ⟨⟨a0, a1, a2, a3, a4⟩, _, _, rfl, i0, i1, i2, i3, i4⟩
theorem rd_Gauges : RdW Tryz.prog 25 (fun w cs (l : List Gauge) => ∃ v, cs = [v] ∧ Sl w 5 RGauge v l ∧ l.length * 80 ≤ 140737488351232) := rdw_slice rd_Gauge (by kernel_rfl) (by decide) Tryz.underlying25 (by kernel_rfl)
theorem rd_Const : RdW Tryz.prog 214 RConst := by
 intro H enc w base spare held fuel cs x h hW
 obtain ⟨n, c0, c1, c2, c3, c4, c5, rfl, ⟨y0, f0, k0⟩, ⟨y1, f1, k1⟩, ⟨y2, f2, k2⟩, ⟨y3, f3, k3⟩, ⟨y4, f4, k4⟩, ⟨y5, f5, k5⟩⟩ := rdF214 h hW
 obtain ⟨a0, g0⟩ := (Rd.w (rd_str Tryz.underlying9)) _ _ _ _ _ _ _ _ _ f0 k0
 obtain ⟨a1, g1⟩ := rd_Ints _ _ _ _ _ _ _ _ _ f1 k1
 obtain ⟨a2, g2⟩ := (Rd.w (rd_int Tryz.underlying3)) _ _ _ _ _ _ _ _ _ f2 k2
 obtain ⟨a3, g3⟩ := (Rd.w (rd_int Tryz.underlying3)) _ _ _ _ _ _ _ _ _ f3 k3
 obtain ⟨a4, g4⟩ := (Rd.w (rd_int Tryz.underlying3)) _ _ _ _ _ _ _ _ _ f4 k4
 obtain ⟨a5, g5⟩ := (Rd.w (rd_int Tryz.underlying3)) _ _ _ _ _ _ _ _ _ f5 k5
 obtain ⟨e0, i0⟩ := g0; obtain ⟨e2, i2⟩ := g2; obtain ⟨e3, i3⟩ := g3; obtain ⟨e4, i4⟩ := g4; obtain ⟨e5, i5⟩ := g5; obtain ⟨v1, e1, i1, r1⟩ := g1; cases e0; cases e1; cases e2; cases e3; cases e4; cases e5; exact ⟨⟨a0, a1, a2, a3, a4, a5⟩, _, rfl, i0, i1, i2, i3, i4, i5⟩
theorem rd_Consts : RdW Tryz.prog 22 (fun w cs (l : List Const) => ∃ v, cs = [v] ∧ Sl w 6 RConst v l ∧ l.length * 72 ≤ 140737488351232) := rdw_slice rd_Const (by kernel_rfl) (by decide) Tryz.underlying22 (by kernel_rfl)
theorem rd_Table : RdW Tryz.prog 24 RTable := by
 intro H enc w base spare held fuel cs x h hW
 obtain ⟨n, c0, c1, rfl, ⟨y0, f0, k0⟩, ⟨y1, f1, k1⟩⟩ := rdF24 h hW
 obtain ⟨a0, g0⟩ := (Rd.w (rd_int Tryz.underlying3)) _ _ _ _ _ _ _ _ _ f0 k0
 obtain ⟨a1, g1⟩ := rd_Consts _ _ _ _ _ _ _ _ _ f1 k1
 obtain ⟨e0, i0⟩ := g0; obtain ⟨v1, e1, i1, r1⟩ := g1; cases e0; cases e1; exact ⟨⟨a0, a1⟩, _, rfl, i0, i1⟩
theorem rd_Ctr : RdW Tryz.prog 118 RCtr := by
 intro H enc w base spare held fuel cs x h hW
 obtain ⟨n, c0, c1, c2, c3, rfl, ⟨y0, f0, k0⟩, ⟨y1, f1, k1⟩, ⟨y2, f2, k2⟩, ⟨y3, f3, k3⟩⟩ := rdF118 h hW
 obtain ⟨a0, g0⟩ := (Rd.w (rd_str Tryz.underlying9)) _ _ _ _ _ _ _ _ _ f0 k0
 obtain ⟨a1, g1⟩ := (Rd.w (rd_int Tryz.underlying3)) _ _ _ _ _ _ _ _ _ f1 k1
 obtain ⟨a2, g2⟩ := (Rd.w (rd_int Tryz.underlying3)) _ _ _ _ _ _ _ _ _ f2 k2
 obtain ⟨a3, g3⟩ := (Rd.w (rd_int Tryz.underlying3)) _ _ _ _ _ _ _ _ _ f3 k3
 obtain ⟨e0, i0⟩ := g0; obtain ⟨e1, i1⟩ := g1; obtain ⟨e2, i2⟩ := g2; obtain ⟨e3, i3⟩ := g3; cases e0; cases e1; cases e2; cases e3; exact ⟨⟨a0, a1, a2, a3⟩, rfl, i0, i1, i2, i3⟩
theorem rd_Ctrs : RdW Tryz.prog 26 (fun w cs (l : List Ctr) => ∃ v, cs = [v] ∧ Sl w 4 RCtr v l ∧ l.length * 40 ≤ 140737488351232) := rdw_slice rd_Ctr (by kernel_rfl) (by decide) Tryz.underlying26 (by kernel_rfl)
theorem rd_Fct : RdW Tryz.prog 121 RFct := by
 intro H enc w base spare held fuel cs x h hW
 obtain ⟨n, c0, c1, c2, c3, rfl, ⟨y0, f0, k0⟩, ⟨y1, f1, k1⟩, ⟨y2, f2, k2⟩, ⟨y3, f3, k3⟩⟩ := rdF121 h hW
 obtain ⟨a0, g0⟩ := (Rd.w (rd_int Tryz.underlying3)) _ _ _ _ _ _ _ _ _ f0 k0
 obtain ⟨a1, g1⟩ := (Rd.w (rd_int Tryz.underlying3)) _ _ _ _ _ _ _ _ _ f1 k1
 obtain ⟨a2, g2⟩ := (Rd.w (rd_int Tryz.underlying3)) _ _ _ _ _ _ _ _ _ f2 k2
 obtain ⟨a3, g3⟩ := rd_Rows _ _ _ _ _ _ _ _ _ f3 k3
 obtain ⟨e0, i0⟩ := g0; obtain ⟨e1, i1⟩ := g1; obtain ⟨e2, i2⟩ := g2; obtain ⟨v3, e3, i3, r3⟩ := g3; cases e0; cases e1; cases e2; cases e3; exact ⟨⟨a0, a1, a2, a3⟩, _, rfl, i0, i1, i2, i3⟩
theorem rd_Fcts : RdW Tryz.prog 27 (fun w cs (l : List Fct) => ∃ v, cs = [v] ∧ Sl w 4 RFct v l ∧ l.length * 48 ≤ 140737488351232) := rdw_slice rd_Fct (by kernel_rfl) (by decide) Tryz.underlying27 (by kernel_rfl)
theorem rd_Sgt : RdW Tryz.prog 29 RSgt := by
 intro H enc w base spare held fuel cs x h hW
 obtain ⟨n, c0, c1, c2, c3, c4, c5, c6, c7, c8, c9, c10, c11, rfl, ⟨y0, f0, k0⟩, ⟨y1, f1, k1⟩, ⟨y2, f2, k2⟩, ⟨y3, f3, k3⟩, ⟨y4, f4, k4⟩, ⟨y5, f5, k5⟩, ⟨y6, f6, k6⟩, ⟨y7, f7, k7⟩, ⟨y8, f8, k8⟩, ⟨y9, f9, k9⟩, ⟨y10, f10, k10⟩⟩ := rdF29 h hW
 obtain ⟨a0, g0⟩ := rd_Table _ _ _ _ _ _ _ _ _ f0 k0
 obtain ⟨a1, g1⟩ := rd_Gauges _ _ _ _ _ _ _ _ _ f1 k1
 obtain ⟨a2, g2⟩ := (Rd.w (rd_int Tryz.underlying3)) _ _ _ _ _ _ _ _ _ f2 k2
 obtain ⟨a3, g3⟩ := (Rd.w (rd_int Tryz.underlying3)) _ _ _ _ _ _ _ _ _ f3 k3
 obtain ⟨a4, g4⟩ := (Rd.w (rd_int Tryz.underlying3)) _ _ _ _ _ _ _ _ _ f4 k4
 obtain ⟨a5, g5⟩ := rd_Ctrs _ _ _ _ _ _ _ _ _ f5 k5
 obtain ⟨a6, g6⟩ := rd_Fcts _ _ _ _ _ _ _ _ _ f6 k6
 obtain ⟨a7, g7⟩ := (Rd.w (rd_int Tryz.underlying3)) _ _ _ _ _ _ _ _ _ f7 k7
 obtain ⟨a8, g8⟩ := (Rd.w (rd_int Tryz.underlying3)) _ _ _ _ _ _ _ _ _ f8 k8
 obtain ⟨a9, g9⟩ := (Rd.w (rd_int Tryz.underlying3)) _ _ _ _ _ _ _ _ _ f9 k9
 obtain ⟨a10, g10⟩ := (Rd.w (rd_int Tryz.underlying3)) _ _ _ _ _ _ _ _ _ f10 k10
 obtain ⟨q0, e0, t0, t1⟩ := g0; obtain ⟨e2, i2⟩ := g2; obtain ⟨e3, i3⟩ := g3; obtain ⟨e4, i4⟩ := g4; obtain ⟨e7, i7⟩ := g7; obtain ⟨e8, i8⟩ := g8; obtain ⟨e9, i9⟩ := g9; obtain ⟨e10, i10⟩ := g10; obtain ⟨v1, e1, i1, r1⟩ := g1; obtain ⟨v5, e5, i5, r5⟩ := g5; obtain ⟨v6, e6, i6, r6⟩ := g6; cases e0; cases e1; cases e2; cases e3; cases e4; cases e5; cases e6; cases e7; cases e8; cases e9; cases e10; exact ⟨⟨a0, a1, a2, a3, a4, a5, a6, a7, a8, a9, a10⟩, _, _, _, _, rfl, ⟨_, rfl, t0, t1⟩, i1, i2, i3, i4, i5, i6, i7, i8, i9, i10⟩
theorem rd_Ser : RdW Tryz.prog 32 RSer := by
 intro H enc w base spare held fuel cs x h hW
 obtain ⟨n, c0, c1, rfl, ⟨y0, f0, k0⟩, ⟨y1, f1, k1⟩⟩ := rdF32 h hW
 obtain ⟨a0, g0⟩ := (Rd.w (rd_int Tryz.underlying3)) _ _ _ _ _ _ _ _ _ f0 k0
 obtain ⟨a1, g1⟩ := rd_Ints _ _ _ _ _ _ _ _ _ f1 k1
 obtain ⟨e0, i0⟩ := g0; obtain ⟨v1, e1, i1, r1⟩ := g1; cases e0; cases e1; exact ⟨⟨a0, a1⟩, _, rfl, i0, i1⟩
theorem rd_BRow : RdW Tryz.prog 171 RBrow := by
 intro H enc w base spare held fuel cs x h hW
 obtain ⟨n, c0, c1, rfl, ⟨y0, f0, k0⟩, ⟨y1, f1, k1⟩⟩ := rdF171 h hW
 obtain ⟨a0, g0⟩ := (Rd.w (rd_int Tryz.underlying3)) _ _ _ _ _ _ _ _ _ f0 k0
 obtain ⟨a1, g1⟩ := (Rd.w (rd_int Tryz.underlying3)) _ _ _ _ _ _ _ _ _ f1 k1
 obtain ⟨e0, i0⟩ := g0; obtain ⟨e1, i1⟩ := g1; cases e0; cases e1; exact ⟨⟨a0, a1⟩, rfl, i0, i1⟩
theorem rd_BRows : RdW Tryz.prog 35 (fun w cs (l : List BRow) => ∃ v, cs = [v] ∧ Sl w 2 RBrow v l ∧ l.length * 16 ≤ 140737488351232) := rdw_slice rd_BRow (by kernel_rfl) (by decide) Tryz.underlying35 (by kernel_rfl)
theorem rd_Pol : RdW Tryz.prog 173 RPol := by
 intro H enc w base spare held fuel cs x h hW
 obtain ⟨n, c0, c1, c2, c3, rfl, ⟨y0, f0, k0⟩, ⟨y1, f1, k1⟩, ⟨y2, f2, k2⟩, ⟨y3, f3, k3⟩⟩ := rdF173 h hW
 obtain ⟨a0, g0⟩ := (Rd.w (rd_str Tryz.underlying9)) _ _ _ _ _ _ _ _ _ f0 k0
 obtain ⟨a1, g1⟩ := (Rd.w (rd_int Tryz.underlying3)) _ _ _ _ _ _ _ _ _ f1 k1
 obtain ⟨a2, g2⟩ := (Rd.w (rd_int Tryz.underlying3)) _ _ _ _ _ _ _ _ _ f2 k2
 obtain ⟨a3, g3⟩ := (Rd.w (rd_int Tryz.underlying3)) _ _ _ _ _ _ _ _ _ f3 k3
 obtain ⟨e0, i0⟩ := g0; obtain ⟨e1, i1⟩ := g1; obtain ⟨e2, i2⟩ := g2; obtain ⟨e3, i3⟩ := g3; cases e0; cases e1; cases e2; cases e3; exact ⟨⟨a0, a1, a2, a3⟩, rfl, i0, i1, i2, i3⟩
theorem rd_Pols : RdW Tryz.prog 36 (fun w cs (l : List Pol) => ∃ v, cs = [v] ∧ Sl w 4 RPol v l ∧ l.length * 40 ≤ 140737488351232) := rdw_slice rd_Pol (by kernel_rfl) (by decide) Tryz.underlying36 (by kernel_rfl)
theorem rd_Bas : RdW Tryz.prog 38 RBas := by
 intro H enc w base spare held fuel cs x h hW
 obtain ⟨n, c0, c1, c2, c3, c4, rfl, ⟨y0, f0, k0⟩, ⟨y1, f1, k1⟩, ⟨y2, f2, k2⟩, ⟨y3, f3, k3⟩, ⟨y4, f4, k4⟩⟩ := rdF38 h hW
 obtain ⟨a0, g0⟩ := rd_BRows _ _ _ _ _ _ _ _ _ f0 k0
 obtain ⟨a1, g1⟩ := (Rd.w (rd_int Tryz.underlying3)) _ _ _ _ _ _ _ _ _ f1 k1
 obtain ⟨a2, g2⟩ := (Rd.w (rd_int Tryz.underlying3)) _ _ _ _ _ _ _ _ _ f2 k2
 obtain ⟨a3, g3⟩ := (Rd.w (rd_int Tryz.underlying3)) _ _ _ _ _ _ _ _ _ f3 k3
 obtain ⟨a4, g4⟩ := rd_Pols _ _ _ _ _ _ _ _ _ f4 k4
 obtain ⟨v0, e0, i0, r0⟩ := g0; obtain ⟨e1, i1⟩ := g1; obtain ⟨e2, i2⟩ := g2; obtain ⟨e3, i3⟩ := g3; obtain ⟨v4, e4, i4, r4⟩ := g4; cases e0; cases e1; cases e2; cases e3; cases e4; exact ⟨⟨a0, a1, a2, a3, a4⟩, _, _, rfl, i0, i1, i2, i3, i4⟩
theorem rd_Sers : RdW Tryz.prog 39 (fun w cs (l : List Ser) => ∃ v, cs = [v] ∧ Sl w 2 RSer v l ∧ l.length * 32 ≤ 140737488351232) := rdw_slice rd_Ser (by kernel_rfl) (by decide) Tryz.underlying39 (by kernel_rfl)
theorem rd_Clt : RdW Tryz.prog 41 RClt := by
 intro H enc w base spare held fuel cs x h hW
 obtain ⟨n, c0, c1, c2, c3, c4, c5, c6, c7, c8, c9, c10, rfl, ⟨y0, f0, k0⟩, ⟨y1, f1, k1⟩, ⟨y2, f2, k2⟩, ⟨y3, f3, k3⟩, ⟨y4, f4, k4⟩, ⟨y5, f5, k5⟩, ⟨y6, f6, k6⟩⟩ := rdF41 h hW
 obtain ⟨a0, g0⟩ := rd_Bas _ _ _ _ _ _ _ _ _ f0 k0
 obtain ⟨a1, g1⟩ := rd_Ints _ _ _ _ _ _ _ _ _ f1 k1
 obtain ⟨a2, g2⟩ := rd_Sers _ _ _ _ _ _ _ _ _ f2 k2
 obtain ⟨a3, g3⟩ := rd_Ints _ _ _ _ _ _ _ _ _ f3 k3
 obtain ⟨a4, g4⟩ := (Rd.w (rd_int Tryz.underlying3)) _ _ _ _ _ _ _ _ _ f4 k4
 obtain ⟨a5, g5⟩ := (Rd.w (rd_int Tryz.underlying3)) _ _ _ _ _ _ _ _ _ f5 k5
 obtain ⟨a6, g6⟩ := (Rd.w (rd_int Tryz.underlying3)) _ _ _ _ _ _ _ _ _ f6 k6
 obtain ⟨q0, q1, e0, b0, b1, b2, b3, b4⟩ := id g0; obtain ⟨v1, e1, i1, r1⟩ := g1; obtain ⟨v2, e2, i2, r2⟩ := g2; obtain ⟨v3, e3, i3, r3⟩ := g3; obtain ⟨e4, i4⟩ := g4; obtain ⟨e5, i5⟩ := g5; obtain ⟨e6, i6⟩ := g6; cases e0; cases e1; cases e2; cases e3; cases e4; cases e5; cases e6; exact ⟨⟨a0, a1, a2, a3, a4, a5, a6⟩, _, _, _, _, _, rfl, g0, i1, r1, i2, i3, i4, i5, i6⟩
theorem rd_Rls : RdW Tryz.prog 43 (fun _ cs (r : Int × Int) => cs = [.int .i64 r.1, .int .i64 r.2] ∧ I64 r.1 ∧ I64 r.2) := by
 intro H enc w base spare held fuel cs x h hW
 obtain ⟨n, c0, c1, rfl, ⟨y0, f0, k0⟩, ⟨y1, f1, k1⟩⟩ := rdF43 h hW
 obtain ⟨a0, g0⟩ := (Rd.w (rd_int Tryz.underlying3)) _ _ _ _ _ _ _ _ _ f0 k0
 obtain ⟨a1, g1⟩ := (Rd.w (rd_int Tryz.underlying3)) _ _ _ _ _ _ _ _ _ f1 k1
 obtain ⟨e0, i0⟩ := g0; obtain ⟨e1, i1⟩ := g1; cases e0; cases e1; exact ⟨(a0, a1), rfl, i0, i1⟩
theorem rd_Pln : RdW Tryz.prog 45 (fun _ cs (r : Pln) => cs = [.int .i64 r.close, .int .i64 r.opn] ∧ I64 r.close ∧ I64 r.opn) := by
 intro H enc w base spare held fuel cs x h hW
 obtain ⟨n, c0, c1, rfl, ⟨y0, f0, k0⟩, ⟨y1, f1, k1⟩⟩ := rdF45 h hW
 obtain ⟨a0, g0⟩ := (Rd.w (rd_int Tryz.underlying3)) _ _ _ _ _ _ _ _ _ f0 k0
 obtain ⟨a1, g1⟩ := (Rd.w (rd_int Tryz.underlying3)) _ _ _ _ _ _ _ _ _ f1 k1
 obtain ⟨e0, i0⟩ := g0; obtain ⟨e1, i1⟩ := g1; cases e0; cases e1; exact ⟨⟨a0, a1⟩, rfl, i0, i1⟩
theorem rd_U16s : RdW Tryz.prog 46 (fun w cs (l : List Int) => ∃ v, cs = [v] ∧ Sl w 1 RU6 v l ∧ l.length * 2 ≤ 140737488351232) := rdw_slice (Rd.w (rd_u6 Tryz.underlying53)) (by kernel_rfl) (by decide) Tryz.underlying46 (by kernel_rfl)
theorem rd_Kno : RdW Tryz.prog 34 RKno := by
 intro H enc w base spare held fuel cs x h hW
 obtain ⟨n, c0, c1, c2, c3, c4, c5, c6, c7, c8, c9, c10, c11, c12, c13, c14, rfl, ⟨y0, f0, k0⟩, ⟨y1, f1, k1⟩, ⟨y2, f2, k2⟩⟩ := rdF34 h hW
 obtain ⟨a0, g0⟩ := rd_Sgt _ _ _ _ _ _ _ _ _ f0 k0
 obtain ⟨a1, g1⟩ := (Rd.w (rd_int Tryz.underlying3)) _ _ _ _ _ _ _ _ _ f1 k1
 obtain ⟨a2, g2⟩ := rd_Ser _ _ _ _ _ _ _ _ _ f2 k2
 obtain ⟨q0, q1, q2, q3, e0, b0⟩ := id g0; obtain ⟨e1, i1⟩ := g1; obtain ⟨v2, e2, j1, j2⟩ := g2; cases e0; cases e1; cases e2; exact ⟨⟨a0, a1, a2⟩, _, _, _, _, _, rfl, g0, i1, j1, j2⟩
theorem rd_Rld : RdW Tryz.prog 48 RRld := by
 intro H enc w base spare held fuel cs x h hW
 obtain ⟨n, c0, c1, c2, c3, c4, rfl, ⟨y0, f0, k0⟩, ⟨y1, f1, k1⟩, ⟨y2, f2, k2⟩⟩ := rdF48 h hW
 obtain ⟨a0, g0⟩ := rd_Rls _ _ _ _ _ _ _ _ _ f0 k0
 obtain ⟨a1, g1⟩ := rd_Pln _ _ _ _ _ _ _ _ _ f1 k1
 obtain ⟨a2, g2⟩ := rd_U16s _ _ _ _ _ _ _ _ _ f2 k2
 obtain ⟨e0, j0, j1⟩ := g0; obtain ⟨e1, j2, j3⟩ := g1; obtain ⟨v2, e2, i2, r2⟩ := g2; cases e0; cases e1; cases e2; exact ⟨⟨a0, a1, a2⟩, _, rfl, j0, j1, j2, j3, i2⟩
open Go.ChangeShapes Go.WideShapes Go.RowKit
theorem laidEt : Tryz.prog.globalNamed "barrage/surge.level" = some 0 := by kernel_rfl
theorem laidTy : (Tryz.prog.globals[0]?).map (·.type) = some 69 := by kernel_rfl
theorem glb_of_laid {W : World} (h : laidMetH Tryz.prog [("barrage/surge.level", Rows.laid_barrage_surge_level)] W) : Glb W := by
 have h' : laidMet Tryz.prog [("barrage/surge.level", Rows.laid_barrage_surge_level)] W := h
 obtain ⟨ps, hv, -, -⟩ := h'
 obtain ⟨g, t, cs, fuel, p, q, hg, ht, hw, htr, -, -⟩ := hv
 obtain rfl : 0 = g := Option.some.inj (laidEt.symm.trans hg)
 obtain rfl : 69 = t := Option.some.inj (laidTy.symm.trans ht)
 obtain ⟨y0, y1, n, hx, hlen, h0, h1⟩ := trod_struct2 Tryz.underlying69 htr
 obtain ⟨a, e0, rfl, -⟩ := DataW.trod_int Tryz.underlying3 h0
 obtain ⟨b, e1, rfl, -⟩ := DataW.trod_int Tryz.underlying3 h1
 have hl2 : cs.toList.length = 2 := hlen.trans (by kernel_rfl)
 have hc : Tryz.prog.cellsOf 3 = 1 := by kernel_rfl
 obtain ⟨u0, u1, hcs⟩ : ∃ u0 u1, cs.toList = [u0, u1] := by
  match hm : cs.toList, hl2 with
  | [u0, u1], _ => exact ⟨u0, u1, rfl⟩
 rw [hcs] at e0 e1
 simp only [hc] at e0 e1
 have d0 : u0 = .int .i64 a := by simpa using e0
 have d1 : u1 = .int .i64 b := by simpa using e1
 have hd : (a = -20000) ∧ b = 20000 := by
  have := (Prod.mk.inj hx).1
  unfold Rows.laid_barrage_surge_level at this
  injection this with this
  simp only [List.cons.injEq, DataW.lit.injEq, Lit.int.injEq, and_true, true_and] at this
  exact ⟨this.1.symm, this.2.symm⟩
 obtain ⟨rfl, rfl⟩ := hd
 subst d0; subst d1
 intro j u hj
 have := World.var?_cell laidEt hw j
 rw [Nat.zero_add, this, ← Array.getElem?_toList, hcs]
 exact hj
noncomputable def laidWorld (os : Os) : World :=
  let w0 := World.holding Tryz.prog os ⟨#[], #[], []⟩
  { w0 with heap := w0.heap.modify 0 fun
      | .cells _ t frozen => .cells #[.int .i64 (-20000), .int .i64 20000] t frozen
      | o => o }
theorem laidWorld_met (os : Os) (args : Array Value) : laidMetH Tryz.prog [("barrage/surge.level", Rows.laid_barrage_surge_level)] ((laidWorld os).forCall (fun _ _ => 0) ⟨#[], args, []⟩).memory :=
 laidMetH_of_parts (laidMet_of_run (ps := [.cell 0 0, .cell 0 1]) 8 (by kernel_rfl) (by kernel_rfl) (by kernel_rfl)) (by kernel_rfl)
end Go.Proofs.YtchbdfcbogjhcaaGreatDoor
