/- Merged texts, part 3. -/
import Derived.Test.YtmoilbakmlekbaaGreatDoorQ2
set_option linter.all false
/- part Aw3 -/
namespace Go.Proofs.YtmoilbakmlekbaaGreatDoor
open Go Bx
/-- barrage/alarm.Check closure 1 -/
theorem c_Check1 {x : Chan} {w0 : World} : CV Tryz.prog 54 #[.agg (chanC x).toArray] w0 (.string x.name) := by
  refine enter Tryz.func54 rfl Tryz.ntmps54 rfl ?_
  have hS := St.start w0
  refine seq ?_
  refine region ?_
  refine sbox hS rfl rfl ?_; clear hS; intro b1 w hS
  refine sv (yAsg rfl) ?_
  refine nil ?_
  show Code.wp _ _ _ _ _
  refine seq ?_
  refine region ?_
  refine sv (fa41_0 rfl) ?_
  refine sv (yLdB rfl Tryz.isAgg9 (hS.at _) rfl) ?_
  refine sv (yAsg rfl) ?_
  refine nil ?_
  show Code.wp _ _ _ _ _
  refine wp_ret ?_
  exact retV (res1 rfl rfl) hS.ext
/-- barrage/alarm.Check closure 2 -/
theorem c_Check2 {x : Chan} {w0 : World} : CV Tryz.prog 55 #[.agg (chanC x).toArray] w0 (.int .i64 (chanE x)) := by
  refine enter Tryz.func55 rfl Tryz.ntmps55 rfl ?_
  have hS := St.start w0
  refine seq ?_
  refine region ?_
  refine sbox hS rfl rfl ?_; clear hS; intro b1 w hS
  refine sv (yAsg rfl) ?_
  refine nil ?_
  show Code.wp _ _ _ _ _
  refine seq ?_
  refine seq ?_
  refine region ?_
  refine sv (fa41_1 rfl) ?_
  refine sv (yLdB rfl Tryz.isAgg3 (hS.at _) rfl) ?_
  refine scall Tryz.call52 (.cons rfl (.cons rfl (.cons rfl .nil))) c_out ?_
  rintro _ w ⟨rfl, hE⟩; replace hS := hS.step hE; clear hE
  refine sv (yMove rfl) ?_
  refine sg rfl rfl rfl (fun g => (fa41_2 rfl)) (fun v7 g7 => ?_)
  refine sg rfl rfl rfl (fun g => (yLdB (g7.1 g) Tryz.isAgg3 (hS.at _) rfl)) (fun v8 g8 => ?_)
  refine sgc hS rfl rfl rfl Tryz.call52 (fun g => (.cons (g8.1 g) (.cons rfl (.cons rfl .nil)))) (fun g => c_out) ?_; clear hS; intro v9 w hS g9
  refine sv (yOr rfl rfl (fun hB => (g9.1 hB))) ?_
  refine nil ?_
  show Code.wp _ _ _ _ _
  refine cond rfl (fun c10 => ?_) (fun c10 => ?_)
  ·
    refine seq ?_
    refine region ?_
    refine sv (yAsg rfl) ?_
    refine nil ?_
    show Code.wp _ _ _ _ _
    refine wp_ret (thenR ?_)
    exact retV (res1 rfl (eqI (by unfold chanE; rw [if_pos c10]))) hS.ext
  ·
    refine skip ?_
    show Code.wp _ _ _ _ _
    refine seq ?_
    refine region ?_
    refine sv (yAsg rfl) ?_
    refine nil ?_
    show Code.wp _ _ _ _ _
    refine wp_ret ?_
    exact retV (res1 rfl (eqI (by unfold chanE; rw [if_neg (by rw [c10]; decide)]))) hS.ext
/-- barrage/alarm.Check closure 3 -/
theorem c_Check3 {x : Town} {dv : Value} {w0 : World} : CV Tryz.prog 58 #[.agg [.string x.name, .int .i64 x.polder, .int .i64 x.travel, .int .i64 x.lead, dv].toArray] w0 (.string x.name) := by
  refine enter Tryz.func58 rfl Tryz.ntmps58 rfl ?_
  have hS := St.start w0
  refine seq ?_
  refine region ?_
  refine sbox hS rfl rfl ?_; clear hS; intro b1 w hS
  refine sv (yAsg rfl) ?_
  refine nil ?_
  show Code.wp _ _ _ _ _
  refine seq ?_
  refine region ?_
  refine sv (fa36_0 rfl) ?_
  refine sv (yLdB rfl Tryz.isAgg9 (hS.at _) rfl) ?_
  refine sv (yAsg rfl) ?_
  refine nil ?_
  show Code.wp _ _ _ _ _
  refine wp_ret ?_
  exact retV (res1 rfl rfl) hS.ext
/-- barrage/alarm.Check closure 4 closure 1 -/
theorem c_Check41 {c pol : Int} {nch cc b : Nat} {ac : Option Addr} {nv fv : Value} {T : TypeId} {w0 : World} (hb : w0.heap[b]? = some (.cells [.int .i64 pol, .slice ac nch cc, nv, fv].toArray T (0, 0))) (hn : nch ≤ 1000000) : CV Tryz.prog 60 #[.int .i64 c, .pointer (some ⟨b, 0, none⟩)] w0 (.bool (outB c 0 (nch - 1))) := by
  refine enter Tryz.func60 rfl Tryz.ntmps60 rfl ?_
  have hS := St.start w0
  refine seq ?_
  refine region ?_
  refine sv (yAsg rfl) ?_
  refine nil ?_
  show Code.wp _ _ _ _ _
  refine seq ?_
  refine region ?_
  refine sv (yMove rfl) ?_
  refine sv (fa26_1 rfl) ?_
  refine sv (yLdB rfl Tryz.isAgg22 (hS.ext.get hb) rfl) ?_
  refine sv (yLen rfl Tryz.underlying22) ?_
  refine sv (ySub rfl rfl ⟨by omega, by omega⟩) ?_
  refine scall Tryz.call52 (.cons rfl (.cons rfl (.cons rfl .nil))) c_out ?_
  rintro _ w ⟨rfl, hE⟩; replace hS := hS.step hE; clear hE
  refine sv (yAsg rfl) ?_
  refine nil ?_
  show Code.wp _ _ _ _ _
  refine wp_ret ?_
  exact retV (res1 rfl rfl) hS.ext
/-- barrage/alarm.Check closure 5 -/
theorem c_Check5 {c : Int} {w0 : World} : CV Tryz.prog 65 #[.int .i64 c] w0 (.bool (outB c (-1) 200000)) := by
  refine enter Tryz.func65 rfl Tryz.ntmps65 rfl ?_
  have hS := St.start w0
  refine seq ?_
  refine region ?_
  refine sv (yAsg rfl) ?_
  refine nil ?_
  show Code.wp _ _ _ _ _
  refine seq ?_
  refine region ?_
  refine sv (yMove rfl) ?_
  refine scall Tryz.call52 (.cons rfl (.cons rfl (.cons rfl .nil))) c_out ?_
  rintro _ w ⟨rfl, hE⟩; replace hS := hS.step hE; clear hE
  refine sv (yAsg rfl) ?_
  refine nil ?_
  show Code.wp _ _ _ _ _
  refine wp_ret ?_
  exact retV (res1 rfl rfl) hS.ext
set_option maxHeartbeats 1000000 in
/-- barrage/alarm.Check closure 4 -/
theorem c_Check4 {x : Town} {cs : List Value} {pol : Int} {nch cc b : Nat} {ac : Option Addr} {nv fv : Value} {T : TypeId} {w0 : World} (h : RTown w0 cs x) (hb : w0.heap[b]? = some (.cells [.int .i64 pol, .slice ac nch cc, nv, fv].toArray T (0, 0))) (hn : nch ≤ 1000000) (hp : 0 ≤ pol ∧ pol ≤ 6) : CV Tryz.prog 59 #[.agg cs.toArray, .pointer (some ⟨b, 0, none⟩)] w0 (.int .i64 (townE pol nch x)) := by
  obtain ⟨dv, rfl, hnm, hpo, htr, hle, hsk, hrm⟩ := id h
  obtain ⟨a, cap, rfl, hcap, hmx, hel⟩ := id hsk
  have hrm8 : x.chans.length * 8 ≤ 140737488351232 := hrm
  refine enter Tryz.func59 rfl Tryz.ntmps59 rfl ?_
  have hS := St.start w0
  refine seq ?_
  refine region ?_
  refine sbox hS rfl rfl ?_; clear hS; intro b2 w hS
  refine sv (yAsg rfl) ?_
  refine nil ?_
  show Code.wp _ _ _ _ _
  refine seq ?_
  refine region ?_
  refine sv (yFn (.cons rfl .nil)) ?_
  refine sv (yAsg rfl) ?_
  refine nil ?_
  show Code.wp _ _ _ _ _
  refine seq ?_
  refine block ?_
  refine seq ?_
  refine region ?_
  refine sv (fa36_1 rfl) ?_
  refine sv (yLdB rfl Tryz.isAgg3 (hS.at _) rfl) ?_
  refine sv (fa26_0 rfl) ?_
  refine sv (yLdB rfl Tryz.isAgg3 (hS.ext.get hb) rfl) ?_
  refine sv (ySub rfl rfl ⟨by omega, by omega⟩) ?_
  refine scall Tryz.call52 (.cons rfl (.cons rfl (.cons rfl .nil))) c_out ?_
  rintro _ w ⟨rfl, hE⟩; replace hS := hS.step hE; clear hE
  refine sv (yMove rfl) ?_
  refine sg rfl rfl rfl (fun g => (fa36_4 rfl)) (fun v14 g14 => ?_)
  refine sg rfl rfl rfl (fun g => (yLdB (g14.1 g) Tryz.isAgg34 (hS.at _) rfl)) (fun v15 g15 => ?_)
  refine sg rfl rfl rfl (fun g => (yMove rfl)) (fun v16 g16 => ?_)
  refine sgc hS rfl rfl rfl Tryz.call61 (fun g => (.cons (g15.1 g) (.cons (g16.1 g) .nil))) (fun g => (c_ContainsFuncInt (p := fun c => outB c 0 (nch - 1)) (cl := [.pointer (some ⟨b, 0, none⟩)]) (hsk.ext RInt.stays hS.ext) Tryz.call60 (fun c cs w _ e _ => c_Check41 ((hS.ext.trans e).get hb) hn))) ?_; clear hS; intro v17 w hS g17
  refine sv (yOr rfl rfl (fun hB => (g17.1 hB))) ?_
  refine sv (yAsg rfl) ?_
  refine nil ?_
  show Code.wp _ _ _ _ _
  refine cond rfl (fun c6 => ?_) (fun c6 => ?_)
  ·
    refine seq ?_
    refine region ?_
    refine sv (yAsg rfl) ?_
    refine nil ?_
    show Code.wp _ _ _ _ _
    refine wp_ret (blockR (thenR ?_))
    exact retV (res1 rfl (eqI (by unfold townE; rw [if_pos (show (outB x.polder 0 (pol - 1) || x.chans.any fun c => outB c 0 (nch - 1)) = true from c6)]))) hS.ext
  ·
    refine seq ?_
    refine region_mix (fun w => StX [] w0 w [blk b2 [.string x.name, .int .i64 x.polder, .int .i64 x.travel, .int .i64 x.lead, .slice a x.chans.length cap] 36]) 11 mixed hS ?_
    clear hS; intro w hS
    refine f_step 0 (by kernel_rfl) rfl (fun c a a' w h => by obtain ⟨_, v, hv, _⟩ := h; cases hv) (by first | exact hS | exact hS.sub (.cons _ (List.Sublist.refl _)) | exact hS.sub (.cons _ (.cons _ (List.Sublist.refl _)))) (fun w hS => (fa36_4 rfl)) ?_
    refine f_step 1 (by kernel_rfl) rfl (fun c a a' w h => by obtain ⟨_, v, hv, _⟩ := h; cases hv) (by first | exact hS | exact hS.sub (.cons _ (List.Sublist.refl _)) | exact hS.sub (.cons _ (.cons _ (List.Sublist.refl _)))) (fun w hS => (yLdB rfl Tryz.isAgg34 (hS.at _) rfl)) ?_
    refine f_step 6 (by kernel_rfl) rfl (fun c a a' w h => by obtain ⟨_, v, hv, _⟩ := h; cases hv) (by first | exact hS | exact hS.sub (.cons _ (List.Sublist.refl _)) | exact hS.sub (.cons _ (.cons _ (List.Sublist.refl _)))) (fun w hS => (fa36_4 rfl)) ?_
    refine f_step 7 (by kernel_rfl) rfl (fun c a a' w h => by obtain ⟨_, v, hv, _⟩ := h; cases hv) (by first | exact hS | exact hS.sub (.cons _ (List.Sublist.refl _)) | exact hS.sub (.cons _ (.cons _ (List.Sublist.refl _)))) (fun w hS => (yLdB rfl Tryz.isAgg34 (hS.at _) rfl)) ?_
    refine f_step 8 (by kernel_rfl) rfl (fun c a a' w h => by obtain ⟨_, v, hv, _⟩ := h; cases hv) (by first | exact hS | exact hS.sub (.cons _ (List.Sublist.refl _)) | exact hS.sub (.cons _ (.cons _ (List.Sublist.refl _)))) (fun w hS => (yLen rfl Tryz.underlying34)) ?_
    show wpA _ _ _ _ _ _ _ _ _ _
    refine a_step (i := 2) (is := []) (by kernel_rfl) ⟨?_, trivial⟩
    refine ⟨_, rfl, ?_⟩
    refine scall Tryz.call64 (.cons rfl .nil) c_Values ?_
    rintro _ w ⟨bv, rfl, hM⟩; replace hS := hS.call1 hM; clear hM
    refine nil ?_
    refine ⟨fun _ => (by first | exact hS | exact hS.sub (.cons _ (List.Sublist.refl _)) | exact hS.sub (.cons _ (.cons _ (List.Sublist.refl _)))), ?_⟩
    show wpA _ _ _ _ _ _ _ _ _ _
    show wpA _ _ _ _ _ _ _ _ _ _
    refine a_step (i := 3) (is := []) (by kernel_rfl) ⟨?_, trivial⟩
    refine ⟨_, rfl, ?_⟩
    refine scall Tryz.call63 (.cons rfl .nil) (c_Sorted (fun w' e => it_Values ((hsk.ext RInt.stays hS.ext).ext RInt.stays e) (e.get (hS.at bv))) Tryz.call114 hrm) ?_
    rintro sv w hM; replace hS := hS.call1 hM; clear hM
    obtain ⟨av, cv, rfl⟩ := row_shape (hS.row sv)
    have hsl := (sortI_perm x.chans).length_eq
    refine nil ?_
    refine ⟨fun _ => (by first | exact hS | exact hS.sub (.cons _ (List.Sublist.refl _)) | exact hS.sub (.cons _ (.cons _ (List.Sublist.refl _)))), ?_⟩
    show wpA _ _ _ _ _ _ _ _ _ _
    show wpA _ _ _ _ _ _ _ _ _ _
    refine a_step (i := 4) (is := []) (by kernel_rfl) ⟨?_, trivial⟩
    refine ⟨_, rfl, ?_⟩
    refine scall Tryz.call62 (.cons rfl .nil) (c_Compact (hS.row (.slice av (sortI x.chans).length cv)) (by rw [(sortI_perm x.chans).length_eq]; exact hrm8)) ?_
    rintro u w ⟨hu, hM⟩
    have hu2 : u = .slice av (compL (sortI x.chans)).length cv := hu
    subst hu2
    clear hu
    replace hS := hS.app (v := .slice av (sortI x.chans).length cv) (v' := .slice av (compL (sortI x.chans)).length cv) (hM.row _) hM.grown (.inl own_slice)
    clear hM
    refine nil ?_
    refine ⟨fun _ => (by first | exact hS | exact hS.sub (.cons _ (List.Sublist.refl _)) | exact hS.sub (.cons _ (.cons _ (List.Sublist.refl _)))), ?_⟩
    show wpA _ _ _ _ _ _ _ _ _ _
    refine f_step 5 (by kernel_rfl) rfl (fun c a a' w h => by obtain ⟨_, v, hv, _⟩ := h; cases hv) (by first | exact hS | exact hS.sub (.cons _ (List.Sublist.refl _)) | exact hS.sub (.cons _ (.cons _ (List.Sublist.refl _)))) (fun w hS => (yLen rfl Tryz.underlying34)) ?_
    refine f_step 9 (by kernel_rfl) rfl (fun c a a' w h => by obtain ⟨_, v, hv, _⟩ := h; cases hv) (by first | exact hS | exact hS.sub (.cons _ (List.Sublist.refl _)) | exact hS.sub (.cons _ (.cons _ (List.Sublist.refl _)))) (fun w hS => (yLss rfl rfl)) ?_
    refine f_step 10 (by kernel_rfl) rfl (fun c a a' w h => by obtain ⟨_, v, hv, _⟩ := h; cases hv) (by first | exact hS | exact hS.sub (.cons _ (List.Sublist.refl _)) | exact hS.sub (.cons _ (.cons _ (List.Sublist.refl _)))) (fun w hS => (yAsg rfl)) ?_
    refine a_end (by kernel_rfl) ?_
    show Code.wp _ _ _ _ _
    refine cond rfl (fun c19 => ?_) (fun c19 => ?_)
    ·
      have c19 : (compL (sortI x.chans)).length < x.chans.length := by have := of_decide_eq_true c19; omega
      refine seq ?_
      refine region ?_
      refine sv (yAsg rfl) ?_
      refine nil ?_
      show Code.wp _ _ _ _ _
      refine wp_ret (blockR (thenR ?_))
      exact retV (res1 rfl (eqI (by unfold townE; rw [if_neg (by rw [show (outB x.polder 0 (pol - 1) || x.chans.any fun c => outB c 0 (nch - 1)) = false from c6]; decide), if_pos ((comp_sort x.chans).1 c19)]))) hS.ext
    ·
      have c19 : ¬ (compL (sortI x.chans)).length < x.chans.length := by have := of_decide_eq_false c19; omega
      refine seq ?_
      refine region ?_
      refine sv (fa36_2 rfl) ?_
      refine sv (yLdB rfl Tryz.isAgg3 (hS.at _) rfl) ?_
      refine scall Tryz.call52 (.cons rfl (.cons rfl (.cons rfl .nil))) c_out ?_
      rintro _ w ⟨rfl, hE⟩; replace hS := hS.step hE; clear hE
      refine sv (yMove rfl) ?_
      refine sg rfl rfl rfl (fun g => (fa36_3 rfl)) (fun v35 g35 => ?_)
      refine sg rfl rfl rfl (fun g => (yLdB (g35.1 g) Tryz.isAgg3 (hS.at _) rfl)) (fun v36 g36 => ?_)
      refine sgc hS rfl rfl rfl Tryz.call52 (fun g => (.cons (g36.1 g) (.cons rfl (.cons rfl .nil)))) (fun g => c_out) ?_; clear hS; intro v37 w hS g37
      refine sv (yOr rfl rfl (fun hB => (g37.1 hB))) ?_
      refine sv (yAsg rfl) ?_
      refine nil ?_
      show Code.wp _ _ _ _ _
      refine cond rfl (fun c30 => ?_) (fun c30 => ?_)
      ·
        refine seq ?_
        refine region ?_
        refine sv (yAsg rfl) ?_
        refine nil ?_
        show Code.wp _ _ _ _ _
        refine wp_ret (blockR (thenR ?_))
        exact retV (res1 rfl (eqI (by unfold townE; rw [if_neg (by rw [show (outB x.polder 0 (pol - 1) || x.chans.any fun c => outB c 0 (nch - 1)) = false from c6]; decide), if_neg (fun h => c19 ((comp_sort x.chans).2 h)), if_pos c30]))) hS.ext
      ·
        refine skip ?_
        show Code.wp _ _ _ _ _
        refine seq ?_
        refine region ?_
        refine sv (yAsg rfl) ?_
        refine nil ?_
        show Code.wp _ _ _ _ _
        refine wp_ret ?_
        exact retV (res1 rfl (eqI (by unfold townE; rw [if_neg (by rw [show (outB x.polder 0 (pol - 1) || x.chans.any fun c => outB c 0 (nch - 1)) = false from c6]; decide), if_neg (fun h => c19 ((comp_sort x.chans).2 h)), if_neg (by rw [c30]; decide)]))) hS.ext
end Go.Proofs.YtmoilbakmlekbaaGreatDoor

/- part Aw4 -/
namespace Go.Proofs.YtmoilbakmlekbaaGreatDoor
open Go Bx
set_option maxHeartbeats 2000000 in
/-- barrage/alarm.Check -/
theorem c_CheckA {t : Task} {cs : List Value} {w0 : World} (hg : Glb w0) (h : RTask w0 cs t) : CV Tryz.prog 19 #[.agg cs.toArray] w0 (.tuple #[.int .i64 (checkA t).1, .int .i64 (checkA t).2.1, .int .i64 (checkA t).2.2]) := by
  obtain ⟨hv, nv, fv, rfl, hpol, hsh, hsn, hsf⟩ := id h
  obtain ⟨a1, cap1, rfl, hcap1, hmx1, hel1⟩ := id hsh
  obtain ⟨a2, cap2, rfl, hcap2, hmx2, hel2⟩ := id hsn
  obtain ⟨a3, cap3, rfl, hcap3, hmx3, hel3⟩ := id hsf
  refine enter Tryz.func19 rfl Tryz.ntmps19 rfl ?_
  have hS := St.start w0
  refine seq ?_
  refine region ?_
  refine sbox hS rfl rfl ?_; clear hS; intro b1 w hS
  refine sv (yAsg rfl) ?_
  refine sv (yAsg rfl) ?_
  refine sv (yAsg rfl) ?_
  refine nil ?_
  show Code.wp _ _ _ _ _
  refine seq ?_
  refine region ?_
  refine salloc hS Tryz.zeroValue117 rfl ?_; clear hS; intro b5 w hS
  refine nil ?_
  show Code.wp _ _ _ _ _
  refine seq ?_
  refine block ?_
  refine seq ?_
  refine region ?_
  refine sv (fa26_0 rfl) ?_
  refine sv (yLdB rfl Tryz.isAgg3 (hS.at _) rfl) ?_
  refine scall Tryz.call52 (.cons rfl (.cons rfl (.cons rfl .nil))) c_out ?_
  rintro _ w ⟨rfl, hE⟩; replace hS := hS.step hE; clear hE
  refine sv (yAsg rfl) ?_
  refine nil ?_
  show Code.wp _ _ _ _ _
  refine cond rfl (fun c9 => ?_) (fun c9 => ?_)
  ·
    refine seq ?_
    refine region ?_
    refine sv (yAsg rfl) ?_
    refine sv (yAsg rfl) ?_
    refine sv (yAsg rfl) ?_
    refine nil ?_
    show Code.wp _ _ _ _ _
    have hfin : checkA t = (1, 0, 7) := by unfold checkA; rw [if_pos c9]
    refine wp_ret (blockR (thenR ?_))
    exact retV (res3 rfl (fstI hfin) (thd1I hfin) (thd2I hfin)) hS.ext
  ·
    refine seq ?_
    refine region ?_
    refine sv (fa26_1 rfl) ?_
    refine sv (yLdB rfl Tryz.isAgg22 (hS.at _) rfl) ?_
    refine sv (yLen rfl Tryz.underlying22) ?_
    refine sv (yGtr rfl rfl) ?_
    refine sv (yAsg rfl) ?_
    refine nil ?_
    show Code.wp _ _ _ _ _
    refine cond rfl (fun c13 => ?_) (fun c13 => ?_)
    ·
      simp only [BS, ne_eq] at c13
      refine seq ?_
      refine region ?_
      refine sv (yAsg rfl) ?_
      refine sv (yAsg rfl) ?_
      refine sv (yAsg rfl) ?_
      refine nil ?_
      show Code.wp _ _ _ _ _
      have hfin : checkA t = (2, 0, 3) := by unfold checkA; rw [if_neg (by rw [c9]; decide), if_pos c13]
      refine wp_ret (blockR (thenR ?_))
      exact retV (res3 rfl (fstI hfin) (thd1I hfin) (thd2I hfin)) hS.ext
    ·
      simp only [BS, ne_eq] at c13
      refine skip ?_
      show Code.wp _ _ _ _ _
      refine seq ?_
      refine region ?_
      refine sv (fa26_1 rfl) ?_
      refine sv (yLdB rfl Tryz.isAgg22 (hS.at _) rfl) ?_
      refine scall Tryz.call53 (.cons rfl (.cons rfl (.cons rfl .nil))) (c_eachChan (k1 := []) (k2 := []) (nm := (·.name)) (rest := chanE) (hsh.ext RChan.stays hS.ext) Tryz.call54 Tryz.call55 (fun x cs w _ _ h => by obtain ⟨rfl, -⟩ := h; exact c_Check1) (fun x cs w _ _ h => by obtain ⟨rfl, -⟩ := h; exact c_Check2) (sl_all hsh (fun _ _ h => h.2.1))) ?_
      rintro v w (⟨he1, rfl, hE⟩ | ⟨be, he1, rfl, hM⟩)
      ·
        replace hS := hS.step hE; clear hE
        refine sv (yAsg rfl) ?_
        refine nil ?_
        show Code.wp _ _ _ _ _
        refine seq ?_
        refine block ?_
        refine seq ?_
        refine region ?_
        refine sv (yMove rfl) ?_
        refine sv (yIfaceG rfl Tryz.underlying125 rfl) ?_
        refine scall Tryz.call56 (.cons rfl (.cons rfl .nil)) c_AsNil ?_
        rintro _ w ⟨rfl, hE⟩; replace hS := hS.step hE; clear hE
        refine sv (yAsg rfl) ?_
        refine nil ?_
        show Code.wp _ _ _ _ _
        refine cond rfl (fun c21 => ?_) (fun c21 => ?_)
        ·
          exact absurd c21 (by decide)
        ·
          refine seq ?_
          refine region ?_
          refine sv (fa26_2 rfl) ?_
          refine sv (yLdB rfl Tryz.isAgg23 (hS.at _) rfl) ?_
          refine sv (yLen rfl Tryz.underlying23) ?_
          refine sv (yGtr rfl rfl) ?_
          refine sv (yAsg rfl) ?_
          refine nil ?_
          show Code.wp _ _ _ _ _
          refine cond rfl (fun c33 => ?_) (fun c33 => ?_)
          ·
            simp only [BS, ne_eq] at c33
            refine seq ?_
            refine region ?_
            refine sv (yAsg rfl) ?_
            refine sv (yAsg rfl) ?_
            refine sv (yAsg rfl) ?_
            refine nil ?_
            show Code.wp _ _ _ _ _
            have hfin : checkA t = (3, 0, 3) := by unfold checkA; rw [if_neg (by rw [c9]; decide), if_neg c13, if_neg (fun h => h he1), if_pos c33]
            refine wp_ret (blockR (thenR ?_))
            exact retV (res3 rfl (fstI hfin) (thd1I hfin) (thd2I hfin)) hS.ext
          ·
            simp only [BS, ne_eq] at c33
            refine skip ?_
            show Code.wp _ _ _ _ _
            refine seq ?_
            refine region ?_
            refine sv (fa26_2 rfl) ?_
            refine sv (yLdB rfl Tryz.isAgg23 (hS.at _) rfl) ?_
            refine sv (yFn (.cons rfl .nil)) ?_
            have hpol6 := outB_false.1 c9
            refine scall Tryz.call57 (.cons rfl (.cons rfl (.cons rfl .nil))) (c_eachTown (k1 := []) (k2 := [.pointer (some ⟨b1, 0, none⟩)]) (nm := (·.name)) (rest := townE t.polders t.chans.length) (hsn.ext RTown.stays hS.ext) Tryz.call58 Tryz.call59 (fun x cs w _ _ h => by obtain ⟨dv, rfl, -⟩ := h; exact c_Check3) (fun x cs w _ e h => c_Check4 h (e.get (hS.at b1)) (by omega) hpol6) (sl_all hsn (fun _ _ h => by obtain ⟨_, _, h, _⟩ := h; exact h))) ?_
            rintro v w (⟨he2, rfl, hE⟩ | ⟨be, he2, rfl, hM⟩)
            ·
              replace hS := hS.step hE; clear hE
              refine sv (yAsg rfl) ?_
              refine nil ?_
              show Code.wp _ _ _ _ _
              refine seq ?_
              refine block ?_
              refine seq ?_
              refine region ?_
              refine sv (yMove rfl) ?_
              refine sv (yIfaceG rfl Tryz.underlying125 rfl) ?_
              refine scall Tryz.call56 (.cons rfl (.cons rfl .nil)) c_AsNil ?_
              rintro _ w ⟨rfl, hE⟩; replace hS := hS.step hE; clear hE
              refine sv (yAsg rfl) ?_
              refine nil ?_
              show Code.wp _ _ _ _ _
              refine cond rfl (fun c42 => ?_) (fun c42 => ?_)
              ·
                exact absurd c42 (by decide)
              ·
                refine seq ?_
                refine region ?_
                refine sv (fa26_3 rfl) ?_
                refine sv (yLdB rfl Tryz.isAgg24 (hS.at _) rfl) ?_
                refine sv (yLen rfl Tryz.underlying24) ?_
                refine scall Tryz.call52 (.cons rfl (.cons rfl (.cons rfl .nil))) c_out ?_
                rintro _ w ⟨rfl, hE⟩; replace hS := hS.step hE; clear hE
                refine sv (yAsg rfl) ?_
                refine nil ?_
                show Code.wp _ _ _ _ _
                refine cond rfl (fun c54 => ?_) (fun c54 => ?_)
                ·
                  refine seq ?_
                  refine region ?_
                  refine sv (yAsg rfl) ?_
                  refine sv (yAsg rfl) ?_
                  refine sv (yAsg rfl) ?_
                  refine nil ?_
                  show Code.wp _ _ _ _ _
                  have hfin : checkA t = (4, 0, 3) := by unfold checkA; rw [if_neg (by rw [c9]; decide), if_neg c13, if_neg (fun h => h he1), if_neg c33, if_neg (fun h => h he2), if_pos c54]
                  refine wp_ret (blockR (thenR ?_))
                  exact retV (res3 rfl (fstI hfin) (thd1I hfin) (thd2I hfin)) hS.ext
                ·
                  refine skip ?_
                  show Code.wp _ _ _ _ _
                  refine seq ?_
                  refine seq ?_
                  refine region ?_
                  refine sv (fa26_3 rfl) ?_
                  refine sv (yLdB rfl Tryz.isAgg24 (hS.at _) rfl) ?_
                  refine sv (yLen rfl Tryz.underlying24) ?_
                  refine sv (yMove rfl) ?_
                  refine nil ?_
                  show Code.wp _ _ _ _ _
                  refine block ?_
                  refine loop (fun f w zz => ∃ (k : Nat), f 1 = .pointer (some ⟨b1, 0, none⟩) ∧ f 60 = .slice a3 t.floods.length cap3 ∧ f 61 = .int .i64 (t.floods.length : Int) ∧ f 62 = .int .i64 (k : Int) ∧ StX [] w0 w [blk b1 [.int .i64 t.polders, .slice a1 t.chans.length cap1, .slice a2 t.towns.length cap2, .slice a3 t.floods.length cap3] 26] ∧ (k ≤ t.floods.length) ∧ (firstR (floodE t.polders) t.floods 0 = firstR (floodE t.polders) (t.floods.drop k) k) ∧ zz = t.floods.length - k) _ ⟨_, rfl, 0, rfl, rfl, rfl, rfl, (hS.sub (.cons _ (List.Sublist.refl _))), (Nat.zero_le _), (rfl), rfl⟩ ?_
                  clear hS
                  rintro f w _ ⟨k, h1, h60, h61, h62, hS, hk, hI, rfl⟩
                  refine seq ?_
                  refine region ?_
                  refine sv (yLss h62 h61) ?_
                  refine nil ?_
                  show Code.wp _ _ _ _ _
                  refine seq ?_
                  refine cond rfl (fun c63 => ?_) (fun c63 => ?_)
                  ·
                    simp only [BS, ne_eq] at c63
                    refine skip ?_
                    show Code.wp _ _ _ _ _
                    refine seq ?_
                    refine block ?_
                    refine seq ?_
                    refine region ?_
                    obtain ⟨l, hx, hd⟩ := drop_of (l := t.floods) (k := k) (by omega)
                    obtain ⟨b, o, cs, ha, hlen, hcs, hR⟩ := hel3 (k) (by omega)
                    obtain rfl : l = t.floods[k] := (List.getElem?_eq_some_iff.1 hx).2.symm
                    generalize t.floods[k] = l at hx hd hR
                    have hR0 := hR
                    obtain ⟨lv, rfl, hsl⟩ := id hR0
                    obtain ⟨al, cl, rfl, hlcap, hlmx, hlel⟩ := id hsl
                    refine sv (yMove h62) ?_
                    refine sv (yIxa h60 ha h62 Tryz.runUnderlying24 Tryz.sizeOf34 (by omega) (by omega)) ?_
                    refine sv (yLd rfl Tryz.isAgg34 ((hcs.ext hS.ext).one)) ?_
                    refine sv (yAsg rfl) ?_
                    refine sv (yAsg rfl) ?_
                    refine nil ?_
                    show Code.wp _ _ _ _ _
                    refine block ?_
                    refine seq ?_
                    refine region ?_
                    refine sv (yMove rfl) ?_
                    refine sv (yLen rfl Tryz.underlying34) ?_
                    refine sv (fa26_0 h1) ?_
                    refine sv (yLdB rfl Tryz.isAgg3 (hS.at _) rfl) ?_
                    refine sv (yNeq rfl rfl) ?_
                    refine sv (yAsg rfl) ?_
                    refine nil ?_
                    show Code.wp _ _ _ _ _
                    refine cond rfl (fun c67 => ?_) (fun c67 => ?_)
                    ·
                      simp only [BS, ne_eq] at c67
                      refine seq ?_
                      refine region ?_
                      refine sv (yMove rfl) ?_
                      refine sv (yAsg rfl) ?_
                      refine sv (yAsg rfl) ?_
                      refine sv (yAsg rfl) ?_
                      refine nil ?_
                      show Code.wp _ _ _ _ _
                      have hfl2 : floodE t.polders l = 2 := by unfold floodE; rw [if_pos c67]
                      have hFR : firstR (floodE t.polders) t.floods 0 = ((k : Int), 2) := by rw [hI, hd, firstR, if_pos (by rw [hfl2]; decide), hfl2]
                      have hfin : checkA t = (4, (k : Int), 2) := by unfold checkA; rw [if_neg (by rw [c9]; decide), if_neg c13, if_neg (fun h => h he1), if_neg c33, if_neg (fun h => h he2), if_neg (by rw [c54]; decide), if_pos (by rw [hFR]; show (2 : Int) ≠ 0; decide), hFR]
                      refine wp_ret (blockR (blockR (thenR (thenR (blockR (thenR ?_))))))
                      exact retV (res3 rfl (fstI hfin) (thd1I hfin) (thd2I hfin)) hS.ext
                    ·
                      simp only [BS, ne_eq] at c67
                      refine seq ?_
                      refine region ?_
                      refine sv (yMove rfl) ?_
                      refine scall Tryz.call61 (.cons rfl (.cons rfl .nil)) (c_ContainsFuncInt (p := fun c => outB c (-1) 200000) (cl := []) (hsl.ext RInt.stays hS.ext) Tryz.call65 (fun c cs w _ e _ => c_Check5)) ?_
                      rintro _ w ⟨rfl, hE⟩; replace hS := hS.step hE; clear hE
                      refine sv (yAsg rfl) ?_
                      refine nil ?_
                      show Code.wp _ _ _ _ _
                      refine cond rfl (fun c74 => ?_) (fun c74 => ?_)
                      ·
                        refine seq ?_
                        refine region ?_
                        refine sv (yMove rfl) ?_
                        refine sv (yAsg rfl) ?_
                        refine sv (yAsg rfl) ?_
                        refine sv (yAsg rfl) ?_
                        refine nil ?_
                        show Code.wp _ _ _ _ _
                        have hfl2 : floodE t.polders l = 7 := by unfold floodE; rw [if_neg (fun h => h c67), if_pos c74]
                        have hFR : firstR (floodE t.polders) t.floods 0 = ((k : Int), 7) := by rw [hI, hd, firstR, if_pos (by rw [hfl2]; decide), hfl2]
                        have hfin : checkA t = (4, (k : Int), 7) := by unfold checkA; rw [if_neg (by rw [c9]; decide), if_neg c13, if_neg (fun h => h he1), if_neg c33, if_neg (fun h => h he2), if_neg (by rw [c54]; decide), if_pos (by rw [hFR]; show (7 : Int) ≠ 0; decide), hFR]
                        refine wp_ret (blockR (blockR (thenR (thenR (blockR (thenR ?_))))))
                        exact retV (res3 rfl (fstI hfin) (thd1I hfin) (thd2I hfin)) hS.ext
                      ·
                        refine skip ?_
                        show Code.wp _ _ _ _ _
                        refine region ?_
                        refine sv (yAdd h62 rfl ⟨by omega, by omega⟩) ?_
                        refine sv (yMove rfl) ?_
                        refine nil ?_
                        exact ⟨_, _, rfl, ⟨k + 1, h1, h60, h61, rfl, hS, (by omega), (by rw [hI, hd, firstR, if_neg (fun h => h (by unfold floodE; rw [if_neg (fun h => h c67), if_neg (by rw [c74]; decide)]))]; rfl), rfl⟩, by omega⟩
                  ·
                    simp only [BS, ne_eq] at c63
                    refine exit ?_
                    show Code.wp _ _ _ _ _
                    refine seq ?_
                    refine region ?_
                    refine sv (yAsg rfl) ?_
                    refine sv (yAsg rfl) ?_
                    refine sv (yAsg rfl) ?_
                    refine nil ?_
                    show Code.wp _ _ _ _ _
                    obtain rfl : k = t.floods.length := by omega
                    have hFR : firstR (floodE t.polders) t.floods 0 = (0, 0) := by rw [hI, List.drop_length]; rfl
                    have hfin : checkA t = (0, 0, 0) := by unfold checkA; rw [if_neg (by rw [c9]; decide), if_neg c13, if_neg (fun h => h he1), if_neg c33, if_neg (fun h => h he2), if_neg (by rw [c54]; decide), if_neg (fun h => h (by rw [hFR]))]
                    refine wp_ret ?_
                    exact retV (res3 rfl (fstI hfin) (thd1I hfin) (thd2I hfin)) hS.ext
            ·
              replace hS := hS.call1 hM; clear hM
              refine sv (yAsg rfl) ?_
              refine nil ?_
              show Code.wp _ _ _ _ _
              refine seq ?_
              refine block ?_
              refine seq ?_
              refine region ?_
              refine sv (yMove rfl) ?_
              refine sv (yIfaceG rfl Tryz.underlying125 rfl) ?_
              refine scall Tryz.call56 (.cons rfl (.cons rfl .nil)) (c_AsHit hS (hg.ext hS.ext)) ?_
              rintro _ w ⟨rfl, hM⟩; replace hS := hM; clear hM
              refine sv (yAsg rfl) ?_
              refine nil ?_
              show Code.wp _ _ _ _ _
              refine cond rfl (fun c42 => ?_) (fun c42 => ?_)
              ·
                refine seq ?_
                refine region_draw mixed (by kernel_rfl) hS ?_
                refine qv (fun w hS => (yLdB rfl Tryz.isAgg117 (hS.at _) rfl)) ?_
                refine qv (fun w hS => (yNil rfl)) ?_
                refine qv (fun w hS => (fa127_0 rfl)) ?_
                refine qv (fun w hS => (yLdB rfl Tryz.isAgg3 (hS.at _) rfl)) ?_
                refine qv (fun w hS => (yLdB rfl Tryz.isAgg117 (hS.at _) rfl)) ?_
                refine qv (fun w hS => (yNil rfl)) ?_
                refine qv (fun w hS => (fa127_1 rfl)) ?_
                refine qv (fun w hS => (yLdB rfl Tryz.isAgg28 (hS.at _) rfl)) ?_
                refine qv (fun w hS => (yAsg rfl)) ?_
                refine qv (fun w hS => (yAsg rfl)) ?_
                refine qv (fun w hS => (yAsg rfl)) ?_
                clear hS; refine qnil (fun w hS => ?_)
                show Code.wp _ _ _ _ _
                have hfin : checkA t = (3, namedR (·.name) (townE t.polders t.chans.length) t.towns [] 0) := by unfold checkA; rw [if_neg (by rw [c9]; decide), if_neg c13, if_neg (fun h => h he1), if_neg c33, if_pos he2]
                refine wp_ret (blockR (thenR ?_))
                exact retV (res3 rfl (fstI hfin) (thd1I hfin) (thd2I hfin)) hS.ext
              ·
                exact absurd c42 (by decide)
      ·
        replace hS := hS.call1 hM; clear hM
        refine sv (yAsg rfl) ?_
        refine nil ?_
        show Code.wp _ _ _ _ _
        refine seq ?_
        refine block ?_
        refine seq ?_
        refine region ?_
        refine sv (yMove rfl) ?_
        refine sv (yIfaceG rfl Tryz.underlying125 rfl) ?_
        refine scall Tryz.call56 (.cons rfl (.cons rfl .nil)) (c_AsHit hS (hg.ext hS.ext)) ?_
        rintro _ w ⟨rfl, hM⟩; replace hS := hM; clear hM
        refine sv (yAsg rfl) ?_
        refine nil ?_
        show Code.wp _ _ _ _ _
        refine cond rfl (fun c21 => ?_) (fun c21 => ?_)
        ·
          refine seq ?_
          refine region_draw mixed (by kernel_rfl) hS ?_
          refine qv (fun w hS => (yLdB rfl Tryz.isAgg117 (hS.at _) rfl)) ?_
          refine qv (fun w hS => (yNil rfl)) ?_
          refine qv (fun w hS => (fa127_0 rfl)) ?_
          refine qv (fun w hS => (yLdB rfl Tryz.isAgg3 (hS.at _) rfl)) ?_
          refine qv (fun w hS => (yLdB rfl Tryz.isAgg117 (hS.at _) rfl)) ?_
          refine qv (fun w hS => (yNil rfl)) ?_
          refine qv (fun w hS => (fa127_1 rfl)) ?_
          refine qv (fun w hS => (yLdB rfl Tryz.isAgg28 (hS.at _) rfl)) ?_
          refine qv (fun w hS => (yAsg rfl)) ?_
          refine qv (fun w hS => (yAsg rfl)) ?_
          refine qv (fun w hS => (yAsg rfl)) ?_
          clear hS; refine qnil (fun w hS => ?_)
          show Code.wp _ _ _ _ _
          have hfin : checkA t = (2, namedR (·.name) chanE t.chans [] 0) := by unfold checkA; rw [if_neg (by rw [c9]; decide), if_neg c13, if_pos he1]
          refine wp_ret (blockR (thenR ?_))
          exact retV (res3 rfl (fstI hfin) (thd1I hfin) (thd2I hfin)) hS.ext
        ·
          exact absurd c21 (by decide)
end Go.Proofs.YtmoilbakmlekbaaGreatDoor

/- part Aw5 -/
namespace Go.Proofs.YtmoilbakmlekbaaGreatDoor
open Go Bx
set_option maxHeartbeats 4000000 in
/-- barrage/alarm.begin -/
theorem c_begin {t : Task} {hv nv fv : Value} {w0 : World} (hg : Glb w0) (h : RTask w0 [.int .i64 t.polders, hv, nv, fv] t) : CE Tryz.prog 84 #[.agg [.int .i64 t.polders, hv, nv, fv].toArray] w0 (fun u w' => ((checkA t).2.2 ≠ 0 ∧ u = .tuple #[.pointer none, .int .i64 ((checkA t).2.2)] ∧ Ext w0 w') ∨ ((checkA t).2.2 = 0 ∧ ∃ b b1 b2, u = .tuple #[.pointer (some ⟨b, 0, none⟩), .int .i64 0] ∧ St w0 w' [blk b [.int .i64 t.polders, hv, nv, fv, .slice (some ⟨b1, 0, none⟩) t.towns.length t.towns.length, .slice (some ⟨b2, 0, none⟩) t.towns.length t.towns.length] 141, blk b1 ((arrS t).flatMap spanC) 44, blk b2 ((arrN t).flatMap Bx.encI) 3])) := by
  obtain ⟨hv', nv', fv', he0, hpol, hsh, hsn, hsf⟩ := id h
  obtain ⟨rfl, rfl, rfl⟩ : hv' = hv ∧ nv' = nv ∧ fv' = fv := by simpa [eq_comm] using he0
  obtain ⟨a1, cap1, rfl, hcap1, hmx1, hel1⟩ := id hsh
  obtain ⟨a2, cap2, rfl, hcap2, hmx2, hel2⟩ := id hsn
  obtain ⟨a3, cap3, rfl, hcap3, hmx3, hel3⟩ := id hsf
  refine enter Tryz.func84 rfl Tryz.ntmps84 rfl ?_
  have hS := St.start w0
  refine seq ?_
  refine region ?_
  refine sbox hS rfl rfl ?_; clear hS; intro b1 w hS
  refine sv (yAsg rfl) ?_
  refine sv (yAsg rfl) ?_
  refine nil ?_
  show Code.wp _ _ _ _ _
  refine seq ?_
  refine seq ?_
  refine region ?_
  refine sv (yLdBA rfl Tryz.isAgg26 Tryz.sizeOf26 (hS.at _) rfl rfl) ?_
  refine scall Tryz.call19 (.cons rfl .nil) (c_CheckA (hg.ext hS.ext) (h.ext hS.ext)) ?_
  rintro _ w ⟨rfl, hE⟩; replace hS := hS.step hE; clear hE
  refine sv (yMove rfl) ?_
  refine sv (yExt rfl rfl) ?_
  refine sv (yExt rfl rfl) ?_
  refine sv (yExt rfl rfl) ?_
  refine sv (yAsg rfl) ?_
  refine sv (yAsg rfl) ?_
  refine sv (yAsg rfl) ?_
  refine nil ?_
  show Code.wp _ _ _ _ _
  refine seq ?_
  refine region ?_
  refine sv (yMove rfl) ?_
  refine sv (yNeq rfl rfl) ?_
  refine nil ?_
  show Code.wp _ _ _ _ _
  refine cond rfl (fun c21 => ?_) (fun c21 => ?_)
  ·
    simp only [BS, ne_eq] at c21
    refine seq ?_
    refine region ?_
    refine sv (yMove rfl) ?_
    refine sv (yAsg rfl) ?_
    refine sv (yAsg rfl) ?_
    refine nil ?_
    show Code.wp _ _ _ _ _
    refine wp_ret (thenR ?_)
    refine retQ (res2 rfl rfl rfl) ?_
    exact .inl ⟨c21, rfl, hS.ext⟩
  ·
    simp only [BS, ne_eq] at c21
    have hok := task_ok c21
    have hn8 := hok.ntw
    have hf8 := hok.nfl
    refine skip ?_
    show Code.wp _ _ _ _ _
    refine seqJ (n := 114) (fun f w => ∃ (b33 : Nat) (b27 : Nat) (b31 : Nat), f 1 = .pointer (some ⟨b1, 0, none⟩) ∧ f 7 = .pointer (some ⟨b33, 0, none⟩) ∧ StX [] w0 w [blk b33 [.int .i64 t.polders, .slice a1 t.chans.length cap1, .slice a2 t.towns.length cap2, .slice a3 t.floods.length cap3, .slice (some ⟨b27, 0, none⟩) t.towns.length t.towns.length, .slice (some ⟨b31, 0, none⟩) t.towns.length t.towns.length] 141, blk b27 (List.replicate t.towns.length [.int .i64 0, .int .i64 0]).flatten 44, blk b31 (List.replicate t.towns.length [.int .i64 0]).flatten 3, blk b1 [.int .i64 t.polders, .slice a1 t.chans.length cap1, .slice a2 t.towns.length cap2, .slice a3 t.floods.length cap3] 26] ∧ True) ?_ ?_
    ·
      refine region_mix (fun w => StX [] w0 w [blk b1 [.int .i64 t.polders, .slice a1 t.chans.length cap1, .slice a2 t.towns.length cap2, .slice a3 t.floods.length cap3] 26]) 12 mixed hS ?_
      clear hS; intro w hS
      refine f_step 0 (by kernel_rfl) rfl (fun c a a' w h => by obtain ⟨_, v, hv, _⟩ := h; cases hv) (by first | exact hS | exact hS.sub (.cons _ (List.Sublist.refl _)) | exact hS.sub (.cons _ (.cons _ (List.Sublist.refl _))) | exact hS.sub (.cons _ (.cons _ (.cons _ (List.Sublist.refl _))))) (fun w hS => (yLdBA rfl Tryz.isAgg26 Tryz.sizeOf26 (hS.at _) rfl rfl)) ?_
      refine f_step 1 (by kernel_rfl) rfl (fun c a a' w h => by obtain ⟨_, v, hv, _⟩ := h; cases hv) (by first | exact hS | exact hS.sub (.cons _ (List.Sublist.refl _)) | exact hS.sub (.cons _ (.cons _ (List.Sublist.refl _))) | exact hS.sub (.cons _ (.cons _ (.cons _ (List.Sublist.refl _))))) (fun w hS => (fa26_2 rfl)) ?_
      refine f_step 2 (by kernel_rfl) rfl (fun c a a' w h => by obtain ⟨_, v, hv, _⟩ := h; cases hv) (by first | exact hS | exact hS.sub (.cons _ (List.Sublist.refl _)) | exact hS.sub (.cons _ (.cons _ (List.Sublist.refl _))) | exact hS.sub (.cons _ (.cons _ (.cons _ (List.Sublist.refl _))))) (fun w hS => (yLdB rfl Tryz.isAgg23 (hS.at _) rfl)) ?_
      refine f_step 3 (by kernel_rfl) rfl (fun c a a' w h => by obtain ⟨_, v, hv, _⟩ := h; cases hv) (by first | exact hS | exact hS.sub (.cons _ (List.Sublist.refl _)) | exact hS.sub (.cons _ (.cons _ (List.Sublist.refl _))) | exact hS.sub (.cons _ (.cons _ (.cons _ (List.Sublist.refl _))))) (fun w hS => (yLen rfl Tryz.underlying23)) ?_
      refine f_step 5 (by kernel_rfl) rfl (fun c a a' w h => by obtain ⟨_, v, hv, _⟩ := h; cases hv) (by first | exact hS | exact hS.sub (.cons _ (List.Sublist.refl _)) | exact hS.sub (.cons _ (.cons _ (List.Sublist.refl _))) | exact hS.sub (.cons _ (.cons _ (.cons _ (List.Sublist.refl _))))) (fun w hS => (fa26_2 rfl)) ?_
      refine f_step 6 (by kernel_rfl) rfl (fun c a a' w h => by obtain ⟨_, v, hv, _⟩ := h; cases hv) (by first | exact hS | exact hS.sub (.cons _ (List.Sublist.refl _)) | exact hS.sub (.cons _ (.cons _ (List.Sublist.refl _))) | exact hS.sub (.cons _ (.cons _ (.cons _ (List.Sublist.refl _))))) (fun w hS => (yLdB rfl Tryz.isAgg23 (hS.at _) rfl)) ?_
      refine f_step 7 (by kernel_rfl) rfl (fun c a a' w h => by obtain ⟨_, v, hv, _⟩ := h; cases hv) (by first | exact hS | exact hS.sub (.cons _ (List.Sublist.refl _)) | exact hS.sub (.cons _ (.cons _ (List.Sublist.refl _))) | exact hS.sub (.cons _ (.cons _ (.cons _ (List.Sublist.refl _))))) (fun w hS => (yLen rfl Tryz.underlying23)) ?_
      show wpA _ _ _ _ _ _ _ _ _ _
      refine a_step (i := 4) (is := [8]) (by kernel_rfl) ⟨?_, ?_, trivial⟩
      ·
        refine ⟨_, rfl, ?_⟩
        refine smake (bytes := 16) (zs := [.int .i64 0, .int .i64 0])  hS rfl rfl Tryz.underlying139 ti44 rfl rfl rfl rfl rfl (by omega) (by omega) ?_; clear hS; intro b27 w hS
        refine nil ?_
        refine ⟨fun _ => (by first | exact hS | exact hS.sub (.cons _ (List.Sublist.refl _)) | exact hS.sub (.cons _ (.cons _ (List.Sublist.refl _))) | exact hS.sub (.cons _ (.cons _ (.cons _ (List.Sublist.refl _))))), ?_⟩
        show wpA _ _ _ _ _ _ _ _ _ _
        show wpA _ _ _ _ _ _ _ _ _ _
        refine a_step (i := 8) (is := []) (by kernel_rfl) ⟨?_, trivial⟩
        refine ⟨_, rfl, ?_⟩
        refine smake (bytes := 8) (zs := [.int .i64 0])  hS rfl rfl Tryz.underlying34 ti3 rfl rfl rfl rfl rfl (by omega) (by omega) ?_; clear hS; intro b31 w hS
        refine nil ?_
        refine ⟨fun _ => (by first | exact hS | exact hS.sub (.cons _ (List.Sublist.refl _)) | exact hS.sub (.cons _ (.cons _ (List.Sublist.refl _))) | exact hS.sub (.cons _ (.cons _ (.cons _ (List.Sublist.refl _))))), ?_⟩
        show wpA _ _ _ _ _ _ _ _ _ _
        refine f_step 9 (by kernel_rfl) rfl (fun c a a' w h => by obtain ⟨_, v, hv, _⟩ := h; cases hv) (by first | exact hS | exact hS.sub (.cons _ (List.Sublist.refl _)) | exact hS.sub (.cons _ (.cons _ (List.Sublist.refl _))) | exact hS.sub (.cons _ (.cons _ (.cons _ (List.Sublist.refl _))))) (fun w hS => (yBuild Tryz.zeroValue141 rfl pl141 (.cons rfl rfl (.cons rfl rfl (.cons rfl rfl .nil))) rfl)) ?_
        show wpA _ _ _ _ _ _ _ _ _ _
        refine a_step (i := 10) (is := []) (by kernel_rfl) ⟨?_, trivial⟩
        refine ⟨_, rfl, ?_⟩
        refine sbox hS rfl rfl ?_; clear hS; intro b33 w hS
        refine nil ?_
        refine ⟨fun _ => (by first | exact hS | exact hS.sub (.cons _ (List.Sublist.refl _)) | exact hS.sub (.cons _ (.cons _ (List.Sublist.refl _))) | exact hS.sub (.cons _ (.cons _ (.cons _ (List.Sublist.refl _))))), ?_⟩
        show wpA _ _ _ _ _ _ _ _ _ _
        refine f_step 11 (by kernel_rfl) rfl (fun c a a' w h => by obtain ⟨_, v, hv, _⟩ := h; cases hv) (by first | exact hS | exact hS.sub (.cons _ (List.Sublist.refl _)) | exact hS.sub (.cons _ (.cons _ (List.Sublist.refl _))) | exact hS.sub (.cons _ (.cons _ (.cons _ (List.Sublist.refl _))))) (fun w hS => (yAsg rfl)) ?_
        refine a_end (by kernel_rfl) ?_
        exact ⟨_, rfl, b33, b27, b31, rfl, rfl, (by first | exact hS | exact hS.perm ((List.Perm.swap _ _ _).cons _)), trivial⟩
      ·
        refine ⟨_, rfl, ?_⟩
        refine smake (bytes := 8) (zs := [.int .i64 0])  hS rfl rfl Tryz.underlying34 ti3 rfl rfl rfl rfl rfl (by omega) (by omega) ?_; clear hS; intro b31 w hS
        refine nil ?_
        refine ⟨fun _ => (by first | exact hS | exact hS.sub (.cons _ (List.Sublist.refl _)) | exact hS.sub (.cons _ (.cons _ (List.Sublist.refl _))) | exact hS.sub (.cons _ (.cons _ (.cons _ (List.Sublist.refl _))))), ?_⟩
        show wpA _ _ _ _ _ _ _ _ _ _
        show wpA _ _ _ _ _ _ _ _ _ _
        refine a_step (i := 4) (is := []) (by kernel_rfl) ⟨?_, trivial⟩
        refine ⟨_, rfl, ?_⟩
        refine smake (bytes := 16) (zs := [.int .i64 0, .int .i64 0])  hS rfl rfl Tryz.underlying139 ti44 rfl rfl rfl rfl rfl (by omega) (by omega) ?_; clear hS; intro b27 w hS
        refine nil ?_
        refine ⟨fun _ => (by first | exact hS | exact hS.sub (.cons _ (List.Sublist.refl _)) | exact hS.sub (.cons _ (.cons _ (List.Sublist.refl _))) | exact hS.sub (.cons _ (.cons _ (.cons _ (List.Sublist.refl _))))), ?_⟩
        show wpA _ _ _ _ _ _ _ _ _ _
        refine f_step 9 (by kernel_rfl) rfl (fun c a a' w h => by obtain ⟨_, v, hv, _⟩ := h; cases hv) (by first | exact hS | exact hS.sub (.cons _ (List.Sublist.refl _)) | exact hS.sub (.cons _ (.cons _ (List.Sublist.refl _))) | exact hS.sub (.cons _ (.cons _ (.cons _ (List.Sublist.refl _))))) (fun w hS => (yBuild Tryz.zeroValue141 rfl pl141 (.cons rfl rfl (.cons rfl rfl (.cons rfl rfl .nil))) rfl)) ?_
        show wpA _ _ _ _ _ _ _ _ _ _
        refine a_step (i := 10) (is := []) (by kernel_rfl) ⟨?_, trivial⟩
        refine ⟨_, rfl, ?_⟩
        refine sbox hS rfl rfl ?_; clear hS; intro b33 w hS
        refine nil ?_
        refine ⟨fun _ => (by first | exact hS | exact hS.sub (.cons _ (List.Sublist.refl _)) | exact hS.sub (.cons _ (.cons _ (List.Sublist.refl _))) | exact hS.sub (.cons _ (.cons _ (.cons _ (List.Sublist.refl _))))), ?_⟩
        show wpA _ _ _ _ _ _ _ _ _ _
        refine f_step 11 (by kernel_rfl) rfl (fun c a a' w h => by obtain ⟨_, v, hv, _⟩ := h; cases hv) (by first | exact hS | exact hS.sub (.cons _ (List.Sublist.refl _)) | exact hS.sub (.cons _ (.cons _ (List.Sublist.refl _))) | exact hS.sub (.cons _ (.cons _ (.cons _ (List.Sublist.refl _))))) (fun w hS => (yAsg rfl)) ?_
        refine a_end (by kernel_rfl) ?_
        exact ⟨_, rfl, b33, b27, b31, rfl, rfl, (by first | exact hS | exact hS.perm ((List.Perm.swap _ _ _).cons _)), trivial⟩
    ·
      clear hS; rintro f w ⟨b33, b27, b31, h1, h7, hS, -⟩
      refine seq ?_
      refine seq ?_
      refine region ?_
      refine sv (fa26_2 h1) ?_
      refine sv (yLdB rfl Tryz.isAgg23 (hS.at _) rfl) ?_
      refine sv (yLen rfl Tryz.underlying23) ?_
      refine sv (yMove rfl) ?_
      refine nil ?_
      show Code.wp _ _ _ _ _
      refine block ?_
      refine loop (fun f w zz => ∃ (i : Nat) (cl : List Span) (ml : List Int), f 1 = .pointer (some ⟨b1, 0, none⟩) ∧ f 7 = .pointer (some ⟨b33, 0, none⟩) ∧ f 35 = .slice a2 t.towns.length cap2 ∧ f 36 = .int .i64 (t.towns.length : Int) ∧ f 37 = .int .i64 (i : Int) ∧ StX [] w0 w [blk b33 [.int .i64 t.polders, .slice a1 t.chans.length cap1, .slice a2 t.towns.length cap2, .slice a3 t.floods.length cap3, .slice (some ⟨b27, 0, none⟩) t.towns.length t.towns.length, .slice (some ⟨b31, 0, none⟩) t.towns.length t.towns.length] 141, blk b27 ((cl).flatMap spanC) 44, blk b31 ((ml).flatMap Bx.encI) 3, blk b1 [.int .i64 t.polders, .slice a1 t.chans.length cap1, .slice a2 t.towns.length cap2, .slice a3 t.floods.length cap3] 26] ∧ (i ≤ t.towns.length) ∧ (cl.length = t.towns.length) ∧ (ml.length = t.towns.length) ∧ (∀ j, j < t.towns.length → cl[j]? = some (if j < i then (arr t (j : Int)).1 else ⟨0, 0⟩)) ∧ (∀ j, j < t.towns.length → ml[j]? = some (if j < i then (arr t (j : Int)).2 else 0)) ∧ zz = t.towns.length - i) _ ⟨_, rfl, 0, List.replicate t.towns.length ⟨0, 0⟩, List.replicate t.towns.length 0, h1, h7, rfl, rfl, rfl, (by rw [← flat_rep (enc := spanC) (z := ⟨0, 0⟩) rfl, ← flat_rep (enc := Bx.encI) (z := 0) rfl]; exact hS), (Nat.zero_le _), (by simp), (by simp), (fun j hj => by simp [hj]), (fun j hj => by simp [hj]), rfl⟩ ?_
      clear hS
      rintro f w _ ⟨i, cl, ml, h1, h7, h35, h36, h37, hS, hi, hcl, hml, hC, hM, rfl⟩
      refine seq ?_
      refine region ?_
      refine sv (yLss h37 h36) ?_
      refine nil ?_
      show Code.wp _ _ _ _ _
      refine seq ?_
      refine cond rfl (fun c38 => ?_) (fun c38 => ?_)
      ·
        simp only [BS, ne_eq] at c38
        refine skip ?_
        show Code.wp _ _ _ _ _
        refine seq ?_
        refine block ?_
        refine seq ?_
        refine region ?_
        obtain ⟨x, hx, hd⟩ := drop_of (l := t.towns) (k := i) (by omega)
        obtain ⟨b, o, cs, ha, hlen, hcs, hR⟩ := hel2 (i) (by omega)
        obtain rfl : x = t.towns[i] := (List.getElem?_eq_some_iff.1 hx).2.symm
        generalize t.towns[i] = x at hx hd hR
        obtain ⟨dv, rfl, hnm, hpo, htr, hle, hsk, hrm⟩ := hR
        obtain ⟨ad, cd, rfl, -⟩ := id hsk
        have hxo := hok.town x (List.mem_of_getElem? hx)
        have hxp := hxo.pol
        have hxt := hxo.travel
        refine sv (yMove h37) ?_
        refine sv (yIxa h35 ha h37 Tryz.runUnderlying23 Tryz.sizeOf36 (by omega) (by omega)) ?_
        refine sv (yLdA rfl Tryz.isAgg36 Tryz.sizeOf36 (hcs.ext hS.ext) rfl) ?_
        refine salloc hS Tryz.zeroValue36 rfl ?_; clear hS; intro b9 w hS
        refine sv (yAsg rfl) ?_
        refine sst hS rfl rfl Tryz.sizeOf36 rfl rfl rfl rfl ?_; clear hS; intro w hS
        refine nil ?_
        show Code.wp _ _ _ _ _
        refine seq ?_
        refine region ?_
        refine sv (fa26_3 h1) ?_
        refine sv (yLdB rfl Tryz.isAgg24 (hS.at _) rfl) ?_
        refine sv (yLen rfl Tryz.underlying24) ?_
        refine sv (yMove rfl) ?_
        refine nil ?_
        show Code.wp _ _ _ _ _
        refine block ?_
        refine loop (fun f w zz => ∃ (k : Nat) (s : Span × Int), f 1 = .pointer (some ⟨b1, 0, none⟩) ∧ f 7 = .pointer (some ⟨b33, 0, none⟩) ∧ f 35 = .slice a2 t.towns.length cap2 ∧ f 36 = .int .i64 (t.towns.length : Int) ∧ f 37 = .int .i64 (i : Int) ∧ f 8 = .int .i64 (i : Int) ∧ f 9 = .pointer (some ⟨b9, 0, none⟩) ∧ f 43 = .slice a3 t.floods.length cap3 ∧ f 44 = .int .i64 (t.floods.length : Int) ∧ f 45 = .int .i64 (k : Int) ∧ StX [] w0 w [blk b9 [.string x.name, .int .i64 x.polder, .int .i64 x.travel, .int .i64 x.lead, .slice ad x.chans.length cd] 36, blk b33 [.int .i64 t.polders, .slice a1 t.chans.length cap1, .slice a2 t.towns.length cap2, .slice a3 t.floods.length cap3, .slice (some ⟨b27, 0, none⟩) t.towns.length t.towns.length, .slice (some ⟨b31, 0, none⟩) t.towns.length t.towns.length] 141, blk b27 ((cl.set i s.1).flatMap spanC) 44, blk b31 ((ml.set i s.2).flatMap Bx.encI) 3, blk b1 [.int .i64 t.polders, .slice a1 t.chans.length cap1, .slice a2 t.towns.length cap2, .slice a3 t.floods.length cap3] 26] ∧ (k ≤ t.floods.length) ∧ (s = (t.floods.take k).foldl (arrStep x) (⟨0, 0⟩, 0)) ∧ zz = t.floods.length - k) _ ⟨_, rfl, 0, (⟨0, 0⟩, 0), h1, h7, h35, h36, h37, rfl, rfl, rfl, rfl, rfl, (by rw [set_same (show cl[i]? = some (⟨0, 0⟩ : Span) by rw [hC i (by omega), if_neg (by omega)]), set_same (show ml[i]? = some 0 by rw [hM i (by omega), if_neg (by omega)])]; exact hS), (Nat.zero_le _), (rfl), rfl⟩ ?_
        clear hS
        rintro f w _ ⟨k, s, h1, h7, h35, h36, h37, h8, h9, h43, h44, h45, hS, hk, hs, rfl⟩
        refine seq ?_
        refine region ?_
        refine sv (yLss h45 h44) ?_
        refine nil ?_
        show Code.wp _ _ _ _ _
        refine seq ?_
        refine cond rfl (fun c46 => ?_) (fun c46 => ?_)
        ·
          simp only [BS, ne_eq] at c46
          obtain ⟨l, hxl, hdl⟩ := drop_of (l := t.floods) (k := k) (by omega)
          obtain ⟨bl, ol, csl, hal, hlenl, hcsl, hRl⟩ := hel3 (k) (by omega)
          obtain rfl : l = t.floods[k] := (List.getElem?_eq_some_iff.1 hxl).2.symm
          generalize t.floods[k] = l at hxl hdl hRl
          have hR1 := hRl
          obtain ⟨lv, rfl, hsl⟩ := id hR1
          obtain ⟨al, cl2, rfl, hlcap, hlmx, hlel⟩ := id hsl
          have hfl := hok.flood l (List.mem_of_getElem? hxl)
          obtain ⟨bp, op, csp, hap, hlp, hcsp, hRp⟩ := hlel x.polder.toNat (by omega)
          obtain ⟨rfl, hip⟩ := hRp
          have hvx : l[x.polder.toNat] = (l.getD x.polder.toNat 0) := by simp [List.getD, show x.polder.toNat < l.length by omega]
          have hvb := (hfl.2 _ (List.getElem_mem (show x.polder.toNat < l.length by omega)))
          rw [hvx] at hcsp hip hvb
          generalize hVV : (l.getD x.polder.toNat 0) = vx at hcsp hip hvb hvx
          have hsb := fold_bd hok hxo k
          simp only at hsb
          rw [← hs] at hsb
          refine skip ?_
          show Code.wp _ _ _ _ _
          refine seq ?_
          refine block ?_
          refine seq ?_
          refine region ?_
          refine sv (yIxa h43 hal h45 Tryz.runUnderlying24 Tryz.sizeOf34 (by omega) (by omega)) ?_
          refine sv (yLd rfl Tryz.isAgg34 ((hcsl.ext hS.ext).one)) ?_
          refine sv (yAsg rfl) ?_
          refine nil ?_
          show Code.wp _ _ _ _ _
          refine seq ?_
          refine region_draw mixed (by kernel_rfl) hS ?_
          refine qv (fun w hS => (yMove rfl)) ?_
          refine qv (fun w hS => (fa36_1 h9)) ?_
          refine qv (fun w hS => (yLdB rfl Tryz.isAgg3 (hS.at _) rfl)) ?_
          refine qv (fun w hS => (yIxa rfl hap rfl Tryz.runUnderlying34 Tryz.sizeOf3 (by omega) (by omega))) ?_
          refine qv (fun w hS => (yLd rfl Tryz.isAgg3 ((hcsp.ext hS.ext).one))) ?_
          refine qv (fun w hS => (fa36_2 h9)) ?_
          refine qv (fun w hS => (yLdB rfl Tryz.isAgg3 (hS.at _) rfl)) ?_
          refine qv (fun w hS => (yAdd rfl rfl ⟨by omega, by omega⟩)) ?_
          refine qv (fun w hS => (yAsg rfl)) ?_
          clear hS; refine qnil (fun w hS => ?_)
          show Code.wp _ _ _ _ _
          refine seqJ (n := 114) (fun f w => ∃ (s1 : Span), f 1 = .pointer (some ⟨b1, 0, none⟩) ∧ f 7 = .pointer (some ⟨b33, 0, none⟩) ∧ f 35 = .slice a2 t.towns.length cap2 ∧ f 36 = .int .i64 (t.towns.length : Int) ∧ f 37 = .int .i64 (i : Int) ∧ f 8 = .int .i64 (i : Int) ∧ f 9 = .pointer (some ⟨b9, 0, none⟩) ∧ f 43 = .slice a3 t.floods.length cap3 ∧ f 44 = .int .i64 (t.floods.length : Int) ∧ f 45 = .int .i64 (k : Int) ∧ StX [] w0 w [blk b9 [.string x.name, .int .i64 x.polder, .int .i64 x.travel, .int .i64 x.lead, .slice ad x.chans.length cd] 36, blk b33 [.int .i64 t.polders, .slice a1 t.chans.length cap1, .slice a2 t.towns.length cap2, .slice a3 t.floods.length cap3, .slice (some ⟨b27, 0, none⟩) t.towns.length t.towns.length, .slice (some ⟨b31, 0, none⟩) t.towns.length t.towns.length] 141, blk b27 ((cl.set i s1).flatMap spanC) 44, blk b31 ((ml.set i s.2).flatMap Bx.encI) 3, blk b1 [.int .i64 t.polders, .slice a1 t.chans.length cap1, .slice a2 t.towns.length cap2, .slice a3 t.floods.length cap3] 26] ∧ ((s1, s.2 + 1) = arrStep x s l) ∧ True) ?_ ?_
          ·
            refine seq ?_
            refine region ?_
            refine sv (yMove h7) ?_
            refine sv (yNil rfl) ?_
            refine sv (fa141_1 rfl) ?_
            refine sv (yLdB rfl Tryz.isAgg139 (hS.at _) rfl) ?_
            refine sv (yMove h8) ?_
            refine sv (yIx0 (m := i) rfl rfl Tryz.runUnderlying139 Tryz.sizeOf44 (by omega)) ?_
            refine sv (yAsg rfl) ?_
            refine nil ?_
            show Code.wp _ _ _ _ _
            refine block ?_
            refine seq ?_
            refine region ?_
            refine sv (yMove rfl) ?_
            refine sv (fa36_1 h9) ?_
            refine sv (yLdB rfl Tryz.isAgg3 (hS.at _) rfl) ?_
            refine sv (yIxa rfl hap rfl Tryz.runUnderlying34 Tryz.sizeOf3 (by omega) (by omega)) ?_
            refine sv (yLd rfl Tryz.isAgg3 ((hcsp.ext hS.ext).one)) ?_
            refine sv (yLss rfl rfl) ?_
            refine sv (yAsg rfl) ?_
            refine nil ?_
            show Code.wp _ _ _ _ _
            refine cond rfl (fun c81 => ?_) (fun c81 => ?_)
            ·
              simp only [BS, ne_eq] at c81
              refine exit ?_
              show Code.wp _ _ _ _ _
              refine region ?_
              refine sv (yAdd h45 rfl ⟨by omega, by omega⟩) ?_
              refine sv (yMove rfl) ?_
              refine nil ?_
              exact ⟨_, _, rfl, ⟨k + 1, s, h1, h7, h35, h36, h37, h8, h9, h43, h44, rfl, hS, (by omega), (by rw [take_snoc hxl, arr_prefix, ← hs]; unfold arrStep; rw [hVV, if_pos c81]), rfl⟩, by omega⟩
            ·
              simp only [BS, ne_eq] at c81
              refine seq ?_
              refine region ?_
              refine sv (yMove h7) ?_
              refine sv (yNil rfl) ?_
              refine sv (fa141_2 rfl) ?_
              refine sv (yLdB rfl Tryz.isAgg34 (hS.at _) rfl) ?_
              refine sv (yMove h8) ?_
              refine sv (yIx0 (m := i) rfl rfl Tryz.runUnderlying34 Tryz.sizeOf3 (by omega)) ?_
              refine sv (yLd rfl Tryz.isAgg3 ((flat_cells0 (enc := Bx.encI) encI_len (blk_cells (hS.at b31)) (set_at (by omega))).one)) ?_
              refine sv (yEql rfl rfl) ?_
              refine sv (yAsg rfl) ?_
              refine nil ?_
              show Code.wp _ _ _ _ _
              refine cond rfl (fun c88 => ?_) (fun c88 => ?_)
              ·
                simp only [BS, ne_eq] at c88
                refine region ?_
                refine sv (yMove rfl) ?_
                refine sv (yMove rfl) ?_
                refine sv (yMove rfl) ?_
                refine sv (yBuild Tryz.zeroValue44 rfl pl44 (.cons rfl rfl (.cons rfl rfl .nil)) rfl) ?_
                refine sv (yNil rfl) ?_
                refine sst hS rfl rfl Tryz.sizeOf44 rfl rfl (by rw [Nat.ble_eq, flat_len spanC_len]; simp; omega) rfl ?_; clear hS; intro w hS
                refine nil ?_
                exact ⟨_, rfl, ⟨vx + x.travel, vx + x.travel⟩, h1, h7, h35, h36, h37, h8, h9, h43, h44, h45, (by have e := splice_enc spanC_len (cl.set i s.1) i ⟨vx + x.travel, vx + x.travel⟩ (by simp; omega); rw [List.set_set] at e; rw [← e]; exact hS), (by unfold arrStep; rw [hVV, if_neg c81, if_pos c88, c88]; rfl), trivial⟩
              ·
                simp only [BS, ne_eq] at c88
                refine region_two mixed [0, 0, 0, 0, 0, 1, 0, 0, 0, 0, 0, 1, 0, 0] 16 16 (fun w => StX [] w0 w [blk b9 [.string x.name, .int .i64 x.polder, .int .i64 x.travel, .int .i64 x.lead, .slice ad x.chans.length cd] 36, blk b33 [.int .i64 t.polders, .slice a1 t.chans.length cap1, .slice a2 t.towns.length cap2, .slice a3 t.floods.length cap3, .slice (some ⟨b27, 0, none⟩) t.towns.length t.towns.length, .slice (some ⟨b31, 0, none⟩) t.towns.length t.towns.length] 141, blk b27 ((cl.set i s.1).flatMap spanC) 44, blk b31 ((ml.set i s.2).flatMap Bx.encI) 3, blk b1 [.int .i64 t.polders, .slice a1 t.chans.length cap1, .slice a2 t.towns.length cap2, .slice a3 t.floods.length cap3] 26]) (fun _ => True) (by kernel_rfl) (fun c a a' w h => by obtain ⟨_, v, hv, _⟩ := h; cases hv) hS (fun _ h => h) (fun _ _ => trivial) ?_
                clear hS; intro w hS
                refine hv0 (fun w => (yMove rfl)) ?_
                refine hv0 (fun w => (yMove rfl)) ?_
                refine hv0 (fun w => (yMove rfl)) ?_
                refine hv0 (fun w => (yNil rfl)) ?_
                refine hv0 (fun w => (fa44_0 rfl)) ?_
                refine hv1 (fun w hS => (yLd rfl Tryz.isAgg3 ((flat_cells0 spanC_len (blk_cells (hS.at b27)) (set_at (by omega))).one))) ?_
                refine hv0 (fun w => (yMove rfl)) ?_
                refine hv0 (fun w => (yMin rfl rfl)) ?_
                refine hv0 (fun w => (yMove rfl)) ?_
                refine hv0 (fun w => (yNil rfl)) ?_
                refine hv0 (fun w => (fa44_1 rfl)) ?_
                refine hv1 (fun w hS => (yLd rfl Tryz.isAgg3 ((flat_cells0 spanC_len (blk_cells (hS.at b27)) (set_at (by omega))).at (j := 1) rfl))) ?_
                refine hv0 (fun w => (yMove rfl)) ?_
                refine hv0 (fun w => (yMax rfl rfl)) ?_
                refine hgnil ?_
                show wpR _ _ _ _ _ _ _ _ _ _ _ _
                refine r_step (i := 14) (is := []) (by kernel_rfl) ⟨?_, trivial⟩
                refine ⟨_, rfl, ?_⟩
                refine sv (yNil rfl) ?_
                refine nil ?_
                refine ⟨⟨fun _ h => h, fun _ h => h⟩, ?_⟩
                show wpR _ _ _ _ _ _ _ _ _ _ _ _
                refine r_step (i := 15) (is := []) (by kernel_rfl) ⟨?_, trivial⟩
                refine ⟨_, rfl, ?_⟩
                refine sv (fa44_0 rfl) ?_
                refine nil ?_
                refine ⟨⟨fun _ h => h, fun _ h => h⟩, ?_⟩
                show wpR _ _ _ _ _ _ _ _ _ _ _ _
                refine r_step (i := 16) (is := []) (by kernel_rfl) ⟨?_, trivial⟩
                refine ⟨_, rfl, ?_⟩
                refine sst hS rfl rfl Tryz.sizeOf3 rfl rfl (by rw [Nat.ble_eq, flat_len spanC_len]; simp; omega) rfl ?_; clear hS; intro w hS
                refine nil ?_
                refine ⟨⟨fun h => absurd h (by decide), fun h => absurd h (by decide)⟩, ?_⟩
                show wpR _ _ _ _ _ _ _ _ _ _ _ _
                refine r_step (i := 17) (is := []) (by kernel_rfl) ⟨?_, trivial⟩
                refine ⟨_, rfl, ?_⟩
                refine sv (yNil rfl) ?_
                refine nil ?_
                refine ⟨⟨fun _ h => h, fun _ h => h⟩, ?_⟩
                show wpR _ _ _ _ _ _ _ _ _ _ _ _
                refine r_step (i := 18) (is := []) (by kernel_rfl) ⟨?_, trivial⟩
                refine ⟨_, rfl, ?_⟩
                refine sv (fa44_1 rfl) ?_
                refine nil ?_
                refine ⟨⟨fun _ h => h, fun _ h => h⟩, ?_⟩
                show wpR _ _ _ _ _ _ _ _ _ _ _ _
                refine r_step (i := 19) (is := []) (by kernel_rfl) ⟨?_, trivial⟩
                refine ⟨_, rfl, ?_⟩
                refine sst hS rfl rfl Tryz.sizeOf3 rfl rfl (ble_splice (k := 1) rfl (by rw [flat_len spanC_len]; simp; omega) (by rw [flat_len spanC_len]; simp; omega)) rfl ?_; clear hS; intro w hS
                refine nil ?_
                refine ⟨⟨fun h => absurd h (by decide), fun h => absurd h (by decide)⟩, ?_⟩
                show wpR _ _ _ _ _ _ _ _ _ _ _ _
                refine r_end (by kernel_rfl) ?_
                exact ⟨_, rfl, ⟨min s.1.lo (vx + x.travel), max s.1.hi (vx + x.travel)⟩, h1, h7, h35, h36, h37, h8, h9, h43, h44, h45, (by have e := splice_enc spanC_len (cl.set i s.1) i ⟨min s.1.lo (vx + x.travel), max s.1.hi (vx + x.travel)⟩ (by simp; omega); rw [List.set_set] at e; rw [← e, show spanC ⟨min s.1.lo (vx + x.travel), max s.1.hi (vx + x.travel)⟩ = [.int .i64 (min s.1.lo (vx + x.travel)), .int .i64 (max s.1.hi (vx + x.travel))] from rfl, ← splice_two _ _ _ _ (by rw [flat_len spanC_len]; simp; omega)]; exact hS), (by unfold arrStep; rw [hVV, if_neg c81, if_neg c88]), trivial⟩
          ·
            clear hS; rintro f w ⟨s1, h1, h7, h35, h36, h37, h8, h9, h43, h44, h45, hS, hs1, -⟩
            refine region ?_
            refine sv (yMove h7) ?_
            refine sv (yNil rfl) ?_
            refine sv (fa141_2 rfl) ?_
            refine sv (yLdB rfl Tryz.isAgg34 (hS.at _) rfl) ?_
            refine sv (yMove h8) ?_
            refine sv (yIx0 (m := i) rfl rfl Tryz.runUnderlying34 Tryz.sizeOf3 (by omega)) ?_
            refine sv (yLd rfl Tryz.isAgg3 ((flat_cells0 (enc := Bx.encI) encI_len (blk_cells (hS.at b31)) (set_at (by omega))).one)) ?_
            refine sv (yAdd rfl rfl ⟨by omega, by omega⟩) ?_
            refine sv (yIx0 (m := i) rfl rfl Tryz.runUnderlying34 Tryz.sizeOf3 (by omega)) ?_
            refine sst hS rfl rfl Tryz.sizeOf3 rfl rfl (by rw [Nat.ble_eq, flat_len encI_len]; simp; omega) rfl ?_; clear hS; intro w hS
            have e31 := splice_enc encI_len (ml.set i s.2) i (s.2 + 1) (by simp; omega)
            rw [List.set_set] at e31
            replace hS : StX [] w0 w [blk b9 [.string x.name, .int .i64 x.polder, .int .i64 x.travel, .int .i64 x.lead, .slice ad x.chans.length cd] 36, blk b33 [.int .i64 t.polders, .slice a1 t.chans.length cap1, .slice a2 t.towns.length cap2, .slice a3 t.floods.length cap3, .slice (some ⟨b27, 0, none⟩) t.towns.length t.towns.length, .slice (some ⟨b31, 0, none⟩) t.towns.length t.towns.length] 141, blk b27 ((cl.set i s1).flatMap spanC) 44, blk b31 ((ml.set i (s.2 + 1)).flatMap Bx.encI) 3, blk b1 [.int .i64 t.polders, .slice a1 t.chans.length cap1, .slice a2 t.towns.length cap2, .slice a3 t.floods.length cap3] 26] := by rw [← e31]; exact hS
            refine nil ?_
            show Code.wp _ _ _ _ _
            refine region ?_
            refine sv (yAdd h45 rfl ⟨by omega, by omega⟩) ?_
            refine sv (yMove rfl) ?_
            refine nil ?_
            exact ⟨_, _, rfl, ⟨k + 1, (s1, s.2 + 1), h1, h7, h35, h36, h37, h8, h9, h43, h44, rfl, hS, (by omega), (by rw [take_snoc hxl, arr_prefix, ← hs]; exact hs1), rfl⟩, by omega⟩
        ·
          simp only [BS, ne_eq] at c46
          refine exit ?_
          show Code.wp _ _ _ _ _
          refine region ?_
          refine sv (yAdd h37 rfl ⟨by omega, by omega⟩) ?_
          refine sv (yMove rfl) ?_
          refine nil ?_
          obtain rfl : k = t.floods.length := by omega
          rw [List.take_length, arr_at hx] at hs
          subst hs
          exact ⟨_, _, rfl, ⟨i + 1, cl.set i (arr t (i : Int)).1, ml.set i (arr t (i : Int)).2, h1, h7, h35, h36, rfl, (hS.sub (.cons _ (List.Sublist.refl _))), (by omega), (by simp [hcl]), (by simp [hml]), (set_nth (A := fun j => (arr t (j : Int)).1) hcl (by omega) hC), (set_nth (A := fun j => (arr t (j : Int)).2) hml (by omega) hM), rfl⟩, by omega⟩
      ·
        simp only [BS, ne_eq] at c38
        refine exit ?_
        show Code.wp _ _ _ _ _
        refine seq ?_
        refine region ?_
        refine sv (yMove h7) ?_
        refine sv (yAsg rfl) ?_
        refine sv (yAsg rfl) ?_
        refine nil ?_
        show Code.wp _ _ _ _ _
        refine wp_ret ?_
        refine retQ (res2 rfl rfl rfl) ?_
        obtain rfl : i = t.towns.length := by omega
        rw [arr_list hcl hC, arr_listN hml hM] at hS
        exact .inr ⟨c21, b33, b27, b31, rfl, hS.sub (.cons_cons _ (.cons_cons _ (.cons_cons _ (List.nil_sublist _))))⟩
end Go.Proofs.YtmoilbakmlekbaaGreatDoor

/- part Aw6 -/
namespace Go.Proofs.YtmoilbakmlekbaaGreatDoor
open Go Bx
/-- (*barrage/alarm.board).first -/
theorem c_first {t : Task} {b : Nat} {i : Int} {w0 : World} (hB : RBoard w0 b t) (hi : 0 ≤ i ∧ i < t.towns.length) : CV Tryz.prog 76 #[.pointer (some ⟨b, 0, none⟩), .int .i64 i] w0 (.int .i64 (arr t i).1.lo) := by
  obtain ⟨a1, c1, a2, c2, a3, c3, a4, c4, a5, c5, T, hb, s1, s2, s3, s4, s5, hok⟩ := id hB.opn
  have hn8 := hok.ntw
  have hf8 := hok.nfl
  have hc4 := hok.nch
  obtain ⟨bs, os, css, has, hls, hcss, hRs, -⟩ := sl_at s4 (arrS_i (t := t) hi)
  obtain ⟨rfl, hs64⟩ := hRs
  have hab := arr_bd hok hi
  refine enter Tryz.func76 rfl Tryz.ntmps76 rfl ?_
  have hS := St.start w0
  refine seq ?_
  refine region ?_
  refine sv (yAsg rfl) ?_
  refine nil ?_
  show Code.wp _ _ _ _ _
  refine seq ?_
  refine region ?_
  refine sv (yMove rfl) ?_
  refine sv (yNil rfl) ?_
  refine sv (fa141_1 rfl) ?_
  refine sv (yLdB rfl Tryz.isAgg139 (hS.ext.get hb) rfl) ?_
  refine sv (yMove rfl) ?_
  refine sv (yIxa rfl has rfl Tryz.runUnderlying139 Tryz.sizeOf44 (by omega) (by omega)) ?_
  refine sv (fa44_0 rfl) ?_
  refine sv (yLd rfl Tryz.isAgg3 ((hcss.ext hS.ext).at (j := 0) rfl)) ?_
  refine sv (yAsg rfl) ?_
  refine nil ?_
  show Code.wp _ _ _ _ _
  refine wp_ret ?_
  exact retV (res1 rfl rfl) hS.ext
/-- (*barrage/alarm.board).act -/
theorem c_act {t : Task} {b : Nat} {i : Int} {w0 : World} (hB : RBoard w0 b t) (hi : 0 ≤ i ∧ i < t.towns.length) : CV Tryz.prog 116 #[.pointer (some ⟨b, 0, none⟩), .int .i64 i] w0 (.int .i64 (actF t i)) := by
  obtain ⟨a1, c1, a2, c2, a3, c3, a4, c4, a5, c5, T, hb, s1, s2, s3, s4, s5, hok⟩ := id hB.opn
  have hn8 := hok.ntw
  have hf8 := hok.nfl
  have hc4 := hok.nch
  obtain ⟨bs, os, css, has, hls, hcss, hRs, -⟩ := sl_at s4 (arrS_i (t := t) hi)
  obtain ⟨rfl, hs64⟩ := hRs
  have hab := arr_bd hok hi
  obtain ⟨bt, ot, cst, hat, hlt, hcst, hRt, -⟩ := sl_at s2 (twn_i (t := t) hi)
  obtain ⟨dvt, rfl, -, -, -, -, hslt, -⟩ := hRt
  have hto := town_ok hok hi
  have htl := hto.lead
  refine enter Tryz.func116 rfl Tryz.ntmps116 rfl ?_
  have hS := St.start w0
  refine seq ?_
  refine region ?_
  refine sv (yAsg rfl) ?_
  refine nil ?_
  show Code.wp _ _ _ _ _
  refine seq ?_
  refine region_draw mixed (by kernel_rfl) hS ?_
  refine qv (fun w hS => (yMove rfl)) ?_
  refine qv (fun w hS => (yNil rfl)) ?_
  refine qv (fun w hS => (fa141_1 rfl)) ?_
  refine qv (fun w hS => (yLdB rfl Tryz.isAgg139 (hS.ext.get hb) rfl)) ?_
  refine qv (fun w hS => (yMove rfl)) ?_
  refine qv (fun w hS => (yIxa rfl has rfl Tryz.runUnderlying139 Tryz.sizeOf44 (by omega) (by omega))) ?_
  refine qv (fun w hS => (fa44_0 rfl)) ?_
  refine qv (fun w hS => (yLd rfl Tryz.isAgg3 ((hcss.ext hS.ext).at (j := 0) rfl))) ?_
  refine qv (fun w hS => (yMove rfl)) ?_
  refine qv (fun w hS => (yNil rfl)) ?_
  refine qv (fun w hS => (fa141_0 rfl)) ?_
  refine qv (fun w hS => (fa26_2 rfl)) ?_
  refine qv (fun w hS => (yLdB rfl Tryz.isAgg23 (hS.ext.get hb) rfl)) ?_
  refine qv (fun w hS => (yMove rfl)) ?_
  refine qv (fun w hS => (yIxa rfl hat rfl Tryz.runUnderlying23 Tryz.sizeOf36 (by omega) (by omega))) ?_
  refine qv (fun w hS => (fa36_3 rfl)) ?_
  refine qv (fun w hS => (yLd rfl Tryz.isAgg3 ((hcst.ext hS.ext).at (j := 3) rfl))) ?_
  refine qv (fun w hS => (ySub rfl rfl ⟨by omega, by omega⟩)) ?_
  refine qv (fun w hS => (yAsg rfl)) ?_
  clear hS; refine qnil (fun w hS => ?_)
  show Code.wp _ _ _ _ _
  refine wp_ret ?_
  exact retV (res1 rfl rfl) hS.ext
/-- (*barrage/alarm.board).latest -/
theorem c_latest {t : Task} {b : Nat} {i c : Int} {w0 : World} (hB : RBoard w0 b t) (hi : 0 ≤ i ∧ i < t.towns.length) (hc : 0 ≤ c ∧ c < t.chans.length) : CV Tryz.prog 104 #[.pointer (some ⟨b, 0, none⟩), .int .i64 i, .int .i64 c] w0 (.int .i64 (latestF t i c)) := by
  obtain ⟨a1, c1, a2, c2, a3, c3, a4, c4, a5, c5, T, hb, s1, s2, s3, s4, s5, hok⟩ := id hB.opn
  have hn8 := hok.ntw
  have hf8 := hok.nfl
  have hc4 := hok.nch
  obtain ⟨bc, oc, csc, hac, hlc, hcsc, hRc, -⟩ := sl_at s1 (chn_i (t := t) hc)
  obtain ⟨rfl, -⟩ := hRc
  have hco := chan_ok hok hc
  have hab := act_bd hok hi
  refine enter Tryz.func104 rfl Tryz.ntmps104 rfl ?_
  have hS := St.start w0
  refine seq ?_
  refine region ?_
  refine sv (yAsg rfl) ?_
  refine nil ?_
  show Code.wp _ _ _ _ _
  refine seq ?_
  refine region_draw mixed (by kernel_rfl) hS ?_
  refine qv (fun w hS => (yMove rfl)) ?_
  refine qv (fun w hS => (yMove rfl)) ?_
  refine qcall Tryz.call116 (.cons rfl (.cons rfl .nil)) (fun w hS => (c_act (hB.ext hS.ext) (by assumption))) ?_
  refine qv (fun w hS => (yMove rfl)) ?_
  refine qv (fun w hS => (yNil rfl)) ?_
  refine qv (fun w hS => (fa141_0 rfl)) ?_
  refine qv (fun w hS => (fa26_1 rfl)) ?_
  refine qv (fun w hS => (yLdB rfl Tryz.isAgg22 (hS.ext.get hb) rfl)) ?_
  refine qv (fun w hS => (yMove rfl)) ?_
  refine qv (fun w hS => (yIxa rfl hac rfl Tryz.runUnderlying22 Tryz.sizeOf41 (by omega) (by omega))) ?_
  refine qv (fun w hS => (fa41_1 rfl)) ?_
  refine qv (fun w hS => (yLd rfl Tryz.isAgg3 ((hcsc.ext hS.ext).at (j := 1) rfl))) ?_
  refine qv (fun w hS => (ySub rfl rfl ⟨by omega, by omega⟩)) ?_
  refine qv (fun w hS => (yMin rfl rfl)) ?_
  refine qv (fun w hS => (yAsg rfl)) ?_
  clear hS; refine qnil (fun w hS => ?_)
  show Code.wp _ _ _ _ _
  refine wp_ret ?_
  exact retV (res1 rfl rfl) hS.ext
/-- (*barrage/alarm.board).stage -/
theorem c_stage {t : Task} {b : Nat} {i now : Int} {w0 : World} (hB : RBoard w0 b t) (hi : 0 ≤ i ∧ i < t.towns.length) : CV Tryz.prog 72 #[.pointer (some ⟨b, 0, none⟩), .int .i64 i, .int .i64 now] w0 (.int .i64 (stageF t i now)) := by
  obtain ⟨a1, c1, a2, c2, a3, c3, a4, c4, a5, c5, T, hb, s1, s2, s3, s4, s5, hok⟩ := id hB.opn
  have hn8 := hok.ntw
  have hf8 := hok.nfl
  have hc4 := hok.nch
  obtain ⟨bn, on, csn, han, hln, hcsn, hRn, -⟩ := sl_at s5 (arrN_i (t := t) hi)
  obtain ⟨rfl, hn64⟩ := hRn
  refine enter Tryz.func72 rfl Tryz.ntmps72 rfl ?_
  have hS := St.start w0
  refine seq ?_
  refine region ?_
  refine sv (yAsg rfl) ?_
  refine nil ?_
  show Code.wp _ _ _ _ _
  refine seq ?_
  refine seq ?_
  refine region ?_
  refine sv (yMove rfl) ?_
  refine sv (yNil rfl) ?_
  refine sv (fa141_2 rfl) ?_
  refine sv (yLdB rfl Tryz.isAgg34 (hS.ext.get hb) rfl) ?_
  refine sv (yMove rfl) ?_
  refine sv (yIxa rfl han rfl Tryz.runUnderlying34 Tryz.sizeOf3 (by omega) (by omega)) ?_
  refine sv (yLd rfl Tryz.isAgg3 ((hcsn.ext hS.ext).one)) ?_
  refine nil ?_
  show Code.wp _ _ _ _ _
  refine block ?_
  refine seq ?_
  refine region ?_
  refine sv (yEql rfl rfl) ?_
  refine sv (yAsg rfl) ?_
  refine nil ?_
  show Code.wp _ _ _ _ _
  refine cond rfl (fun c14 => ?_) (fun c14 => ?_)
  ·
    simp only [BS, ne_eq] at c14
    refine seq ?_
    refine region ?_
    refine sv (yAsg rfl) ?_
    refine nil ?_
    show Code.wp _ _ _ _ _
    refine wp_ret (blockR (thenR ?_))
    exact retV (res1 rfl (eqI (by unfold stageF; rw [if_pos c14]))) hS.ext
  ·
    simp only [BS, ne_eq] at c14
    refine seq ?_
    refine region ?_
    refine sv (yMove rfl) ?_
    refine sv (yNil rfl) ?_
    refine sv (fa141_0 rfl) ?_
    refine sv (fa26_3 rfl) ?_
    refine sv (yLdB rfl Tryz.isAgg24 (hS.ext.get hb) rfl) ?_
    refine sv (yLen rfl Tryz.underlying24) ?_
    refine sv (yEql rfl rfl) ?_
    refine sv (yAsg rfl) ?_
    refine nil ?_
    show Code.wp _ _ _ _ _
    refine cond rfl (fun c16 => ?_) (fun c16 => ?_)
    ·
      simp only [BS, ne_eq] at c16
      refine seq ?_
      refine region ?_
      refine sv (yAsg rfl) ?_
      refine nil ?_
      show Code.wp _ _ _ _ _
      refine wp_ret (blockR (thenR ?_))
      exact retV (res1 rfl (eqI (by unfold stageF; rw [if_neg c14, if_pos c16]))) hS.ext
    ·
      simp only [BS, ne_eq] at c16
      refine skip ?_
      show Code.wp _ _ _ _ _
      refine seq ?_
      refine seq ?_
      refine region ?_
      refine sv (yMove rfl) ?_
      refine sv (yMove rfl) ?_
      refine scall Tryz.call116 (.cons rfl (.cons rfl .nil)) (c_act (hB.ext hS.ext) (by assumption)) ?_
      rintro _ w ⟨rfl, hE⟩; replace hS := hS.step hE; clear hE
      refine sv (yMove rfl) ?_
      refine sv (yLeq rfl rfl) ?_
      refine nil ?_
      show Code.wp _ _ _ _ _
      refine cond rfl (fun c28 => ?_) (fun c28 => ?_)
      ·
        simp only [BS, ne_eq] at c28
        refine seq ?_
        refine region ?_
        refine sv (yAsg rfl) ?_
        refine nil ?_
        show Code.wp _ _ _ _ _
        refine wp_ret (thenR ?_)
        exact retV (res1 rfl (eqI (by unfold stageF; rw [if_neg c14, if_neg c16, if_pos c28]))) hS.ext
      ·
        simp only [BS, ne_eq] at c28
        refine skip ?_
        show Code.wp _ _ _ _ _
        refine seq ?_
        refine region ?_
        refine sv (yAsg rfl) ?_
        refine nil ?_
        show Code.wp _ _ _ _ _
        refine wp_ret ?_
        exact retV (res1 rfl (eqI (by unfold stageF; rw [if_neg c14, if_neg c16, if_neg c28]))) hS.ext
set_option maxHeartbeats 1000000 in
/-- (*barrage/alarm.board).wet -/
theorem c_wet {t : Task} {b : Nat} {w0 : World} (hB : RBoard w0 b t) : CE Tryz.prog 48 #[.pointer (some ⟨b, 0, none⟩)] w0 (fun u w' => St w0 w' [rowI u 3 1 (wetL t).length ((wetL t).flatMap Bx.encI)]) := by
  obtain ⟨a1, c1, a2, c2, a3, c3, a4, c4, a5, c5, T, hb, s1, s2, s3, s4, s5, hok⟩ := id hB.opn
  have hn8 := hok.ntw
  have hf8 := hok.nfl
  have hc4 := hok.nch
  refine enter Tryz.func48 rfl Tryz.ntmps48 rfl ?_
  have hS := St.start w0
  refine seq ?_
  refine region ?_
  refine sv (yAsg rfl) ?_
  refine nil ?_
  show Code.wp _ _ _ _ _
  refine seq ?_
  refine seq ?_
  refine region ?_
  refine sv (yMove rfl) ?_
  refine sv (yNil rfl) ?_
  refine sv (fa141_2 rfl) ?_
  refine sv (yLdB rfl Tryz.isAgg34 (hS.ext.get hb) rfl) ?_
  refine sv (yLen rfl Tryz.underlying34) ?_
  refine sv (yMove rfl) ?_
  refine nil ?_
  show Code.wp _ _ _ _ _
  refine block ?_
  refine loop (fun f w zz => ∃ (k : Nat) (v : Value), f 2 = v ∧ f 8 = .slice a5 t.towns.length c5 ∧ f 9 = .int .i64 (t.towns.length : Int) ∧ f 10 = .int .i64 (k : Int) ∧ StX [] w0 w [rowI v 3 1 (((idxL t).take k).filter fun i => decide (0 < (arr t i).2)).length ((((idxL t).take k).filter fun i => decide (0 < (arr t i).2)).flatMap Bx.encI)] ∧ (k ≤ t.towns.length) ∧ zz = t.towns.length - k) _ ⟨_, rfl, 0, _, rfl, rfl, rfl, rfl, (hS.nilrow 3 1), (Nat.zero_le _), rfl⟩ ?_
  clear hS
  rintro f w _ ⟨k, v, h2, h8, h9, h10, hS, hk, rfl⟩
  refine seq ?_
  refine region ?_
  refine sv (yLss h10 h9) ?_
  refine nil ?_
  show Code.wp _ _ _ _ _
  refine seq ?_
  refine cond rfl (fun c11 => ?_) (fun c11 => ?_)
  ·
    simp only [BS, ne_eq] at c11
    have hkn : k < t.towns.length := by omega
    have hi : 0 ≤ (k : Int) ∧ (k : Int) < t.towns.length := by omega
    obtain ⟨bn, on, csn, han, hln, hcsn, hRn, -⟩ := sl_at s5 (arrN_i (t := t) hi)
    obtain ⟨rfl, hn64⟩ := hRn
    have hfl : (((idxL t).take k).filter fun i => decide (0 < (arr t i).2)).length ≤ k := Nat.le_trans (List.length_filter_le _ _) (by simp; omega)
    refine skip ?_
    show Code.wp _ _ _ _ _
    refine seq ?_
    refine block ?_
    refine seq ?_
    refine region ?_
    refine sv (yMove h10) ?_
    refine sv (yIxa h8 han h10 Tryz.runUnderlying34 Tryz.sizeOf3 (by omega) (by omega)) ?_
    refine sv (yLd rfl Tryz.isAgg3 ((hcsn.ext hS.ext).one)) ?_
    refine sv (yAsg rfl) ?_
    refine sv (yAsg rfl) ?_
    refine nil ?_
    show Code.wp _ _ _ _ _
    refine seq ?_
    refine region ?_
    refine sv (yMove rfl) ?_
    refine sv (yGtr rfl rfl) ?_
    refine nil ?_
    show Code.wp _ _ _ _ _
    refine cond rfl (fun c16 => ?_) (fun c16 => ?_)
    ·
      simp only [BS, ne_eq] at c16
      refine region ?_
      refine sv (yMove h2) ?_
      refine sv (yMove rfl) ?_
      refine sbslice hS Tryz.underlying34 Tryz.sizeOf3 rfl Tryz.zeroValue3 rfl (.cons rfl rfl .nil) rfl ?_; clear hS; intro b19 w hS
      refine sapp (bytes := 8) (size := 1) (v := v) (m := 1) hS rfl rfl Tryz.underlying34 ti3 rfl rfl rfl rfl (by decide) (blk_cells (hS.at _)) rfl rfl (by omega) (by omega) ?_; clear hS; intro v20 w hS
      refine sv (yAsg rfl) ?_
      refine nil ?_
      show Code.wp _ _ _ _ _
      refine region ?_
      refine sv (yAdd h10 rfl ⟨by omega, by omega⟩) ?_
      refine sv (yMove rfl) ?_
      refine nil ?_
      exact ⟨_, _, rfl, ⟨k + 1, _, rfl, h8, h9, rfl, (by rw [take_snoc (idxL_get hkn), List.filter_append, List.filter_cons_of_pos (by simpa using c16), List.filter_nil, List.flatMap_append, List.length_append]; exact hS.sub (.cons _ (List.Sublist.refl _))), (by omega), rfl⟩, by omega⟩
    ·
      simp only [BS, ne_eq] at c16
      refine skip ?_
      show Code.wp _ _ _ _ _
      refine region ?_
      refine sv (yAdd h10 rfl ⟨by omega, by omega⟩) ?_
      refine sv (yMove rfl) ?_
      refine nil ?_
      exact ⟨_, _, rfl, ⟨k + 1, _, h2, h8, h9, rfl, (by rw [take_snoc (idxL_get hkn), List.filter_append, List.filter_cons_of_neg (by simpa using c16), List.filter_nil, List.append_nil]; exact hS), (by omega), rfl⟩, by omega⟩
  ·
    simp only [BS, ne_eq] at c11
    obtain rfl : k = t.towns.length := by omega
    rw [show (idxL t).take t.towns.length = idxL t by rw [← idxL_len]; exact List.take_length] at hS
    refine exit ?_
    show Code.wp _ _ _ _ _
    refine seq ?_
    refine region ?_
    refine sv (yMove h2) ?_
    refine sv (yAsg rfl) ?_
    refine nil ?_
    show Code.wp _ _ _ _ _
    refine wp_ret ?_
    refine retQ (res1 rfl rfl) ?_
    exact hS
end Go.Proofs.YtmoilbakmlekbaaGreatDoor

/- part Aw7 -/
namespace Go.Proofs.YtmoilbakmlekbaaGreatDoor
open Go Bx
set_option maxHeartbeats 1000000 in
/-- barrage/alarm.of -/
theorem c_of {t : Task} {hv nv fv : Value} {i : Int} {w0 : World} (hg : Glb w0) (h : RTask w0 [.int .i64 t.polders, hv, nv, fv] t) : CE Tryz.prog 69 #[.agg [.int .i64 t.polders, hv, nv, fv].toArray, .int .i64 i] w0 (fun u w' => (ofE t i ≠ 0 ∧ u = .tuple #[.pointer none, .int .i64 (ofE t i)] ∧ Ext w0 w') ∨ (ofE t i = 0 ∧ ∃ b b1 b2, u = .tuple #[.pointer (some ⟨b, 0, none⟩), .int .i64 0] ∧ St w0 w' [blk b [.int .i64 t.polders, hv, nv, fv, .slice (some ⟨b1, 0, none⟩) t.towns.length t.towns.length, .slice (some ⟨b2, 0, none⟩) t.towns.length t.towns.length] 141, blk b1 ((arrS t).flatMap spanC) 44, blk b2 ((arrN t).flatMap Bx.encI) 3])) := by
  obtain ⟨hv', nv', fv', he0, hpol, hsh, hsn, hsf⟩ := id h
  obtain ⟨rfl, rfl, rfl⟩ : hv' = hv ∧ nv' = nv ∧ fv' = fv := by simpa [eq_comm] using he0
  obtain ⟨a1, cap1, rfl, hcap1, hmx1, hel1⟩ := id hsh
  obtain ⟨a2, cap2, rfl, hcap2, hmx2, hel2⟩ := id hsn
  obtain ⟨a3, cap3, rfl, hcap3, hmx3, hel3⟩ := id hsf
  refine enter Tryz.func69 rfl Tryz.ntmps69 rfl ?_
  have hS := St.start w0
  refine seq ?_
  refine region ?_
  refine sbox hS rfl rfl ?_; clear hS; intro b2 w hS
  refine sv (yAsg rfl) ?_
  refine sv (yAsg rfl) ?_
  refine nil ?_
  show Code.wp _ _ _ _ _
  refine seq ?_
  refine region ?_
  refine sv (yLdBA rfl Tryz.isAgg26 Tryz.sizeOf26 (hS.at _) rfl rfl) ?_
  refine scall Tryz.call84 (.cons rfl .nil) (c_begin (hg.ext hS.ext) (h.ext hS.ext)) ?_
  rintro _ w (⟨he, rfl, hE⟩ | ⟨he, bb, b1, bz, rfl, hM⟩)
  ·
    replace hS := hS.step hE; clear hE
    refine sv (yMove rfl) ?_
    refine sv (yExt rfl rfl) ?_
    refine sv (yExt rfl rfl) ?_
    refine sv (yAsg rfl) ?_
    refine sv (yAsg rfl) ?_
    refine nil ?_
    show Code.wp _ _ _ _ _
    refine seq ?_
    refine block ?_
    refine seq ?_
    refine region ?_
    refine sv (yMove rfl) ?_
    refine sv (yNeq rfl rfl) ?_
    refine sv (yAsg rfl) ?_
    refine nil ?_
    show Code.wp _ _ _ _ _
    refine cond rfl (fun c13 => ?_) (fun c13 => ?_)
    ·
      simp only [BS, ne_eq] at c13
      refine seq ?_
      refine region ?_
      refine sv (yMove rfl) ?_
      refine sv (yAsg rfl) ?_
      refine sv (yAsg rfl) ?_
      refine nil ?_
      show Code.wp _ _ _ _ _
      refine wp_ret (blockR (thenR ?_))
      refine retQ (res2 rfl rfl rfl) ?_
      have hf : ofE t i = (checkA t).2.2 := by unfold ofE; rw [if_pos he]
      exact .inl ⟨by rw [hf]; exact he, by rw [hf]; rfl, hS.ext⟩
    ·
      simp only [BS, ne_eq] at c13
      exact absurd c13 he
  ·
    replace hS := hS.call hM; clear hM
    replace hS : StX [] w0 w [blk bb [.int .i64 t.polders, .slice a1 t.chans.length cap1, .slice a2 t.towns.length cap2, .slice a3 t.floods.length cap3, .slice (some ⟨b1, 0, none⟩) t.towns.length t.towns.length, .slice (some ⟨bz, 0, none⟩) t.towns.length t.towns.length] 141, blk b1 ((arrS t).flatMap spanC) 44, blk bz ((arrN t).flatMap Bx.encI) 3, blk b2 [.int .i64 t.polders, .slice a1 t.chans.length cap1, .slice a2 t.towns.length cap2, .slice a3 t.floods.length cap3] 26] := hS
    have hn8 := (task_ok he).ntw
    refine sv (yMove rfl) ?_
    refine sv (yExt rfl rfl) ?_
    refine sv (yExt rfl rfl) ?_
    refine sv (yAsg rfl) ?_
    refine sv (yAsg rfl) ?_
    refine nil ?_
    show Code.wp _ _ _ _ _
    refine seq ?_
    refine block ?_
    refine seq ?_
    refine region ?_
    refine sv (yMove rfl) ?_
    refine sv (yNeq rfl rfl) ?_
    refine sv (yAsg rfl) ?_
    refine nil ?_
    show Code.wp _ _ _ _ _
    refine cond rfl (fun c13 => ?_) (fun c13 => ?_)
    ·
      exact absurd c13 (by decide)
    ·
      refine seq ?_
      refine region ?_
      refine sv (yMove rfl) ?_
      refine sv (fa26_2 rfl) ?_
      refine sv (yLdB rfl Tryz.isAgg23 (hS.at _) rfl) ?_
      refine sv (yLen rfl Tryz.underlying23) ?_
      refine sv (ySub rfl rfl ⟨by omega, by omega⟩) ?_
      refine scall Tryz.call52 (.cons rfl (.cons rfl (.cons rfl .nil))) c_out ?_
      rintro _ w ⟨rfl, hE⟩; replace hS := hS.step hE; clear hE
      refine sv (yAsg rfl) ?_
      refine nil ?_
      show Code.wp _ _ _ _ _
      refine cond rfl (fun c17 => ?_) (fun c17 => ?_)
      ·
        refine seq ?_
        refine region ?_
        refine sv (yAsg rfl) ?_
        refine sv (yAsg rfl) ?_
        refine nil ?_
        show Code.wp _ _ _ _ _
        refine wp_ret (blockR (thenR ?_))
        refine retQ (res2 rfl rfl rfl) ?_
        have hf : ofE t i = 4 := by unfold ofE; rw [if_neg (fun h => h he), if_pos c17]
        exact .inl ⟨by rw [hf]; decide, by rw [hf]; rfl, hS.ext⟩
      ·
        refine skip ?_
        show Code.wp _ _ _ _ _
        refine seq ?_
        refine region ?_
        refine sv (yMove rfl) ?_
        refine sv (yAsg rfl) ?_
        refine sv (yAsg rfl) ?_
        refine nil ?_
        show Code.wp _ _ _ _ _
        refine wp_ret ?_
        refine retQ (res2 rfl rfl rfl) ?_
        have hf : ofE t i = 0 := by unfold ofE; rw [if_neg (fun h => h he), if_neg (by rw [c17]; decide)]
        exact .inr ⟨hf, bb, b1, bz, rfl, hS.sub (.cons_cons _ (.cons_cons _ (.cons_cons _ (List.nil_sublist _))))⟩
set_option maxHeartbeats 1000000 in
/-- barrage/alarm.at -/
theorem c_at {t : Task} {hv nv fv : Value} {now : Int} {w0 : World} (hg : Glb w0) (h : RTask w0 [.int .i64 t.polders, hv, nv, fv] t) : CE Tryz.prog 47 #[.agg [.int .i64 t.polders, hv, nv, fv].toArray, .int .i64 now] w0 (fun u w' => (atE t now ≠ 0 ∧ u = .tuple #[.pointer none, .int .i64 (atE t now)] ∧ Ext w0 w') ∨ (atE t now = 0 ∧ ∃ b b1 b2, u = .tuple #[.pointer (some ⟨b, 0, none⟩), .int .i64 0] ∧ St w0 w' [blk b [.int .i64 t.polders, hv, nv, fv, .slice (some ⟨b1, 0, none⟩) t.towns.length t.towns.length, .slice (some ⟨b2, 0, none⟩) t.towns.length t.towns.length] 141, blk b1 ((arrS t).flatMap spanC) 44, blk b2 ((arrN t).flatMap Bx.encI) 3])) := by
  obtain ⟨hv', nv', fv', he0, hpol, hsh, hsn, hsf⟩ := id h
  obtain ⟨rfl, rfl, rfl⟩ : hv' = hv ∧ nv' = nv ∧ fv' = fv := by simpa [eq_comm] using he0
  obtain ⟨a1, cap1, rfl, hcap1, hmx1, hel1⟩ := id hsh
  obtain ⟨a2, cap2, rfl, hcap2, hmx2, hel2⟩ := id hsn
  obtain ⟨a3, cap3, rfl, hcap3, hmx3, hel3⟩ := id hsf
  refine enter Tryz.func47 rfl Tryz.ntmps47 rfl ?_
  have hS := St.start w0
  refine seq ?_
  refine region ?_
  refine sbox hS rfl rfl ?_; clear hS; intro b2 w hS
  refine sv (yAsg rfl) ?_
  refine sv (yAsg rfl) ?_
  refine nil ?_
  show Code.wp _ _ _ _ _
  refine seq ?_
  refine region ?_
  refine sv (yLdBA rfl Tryz.isAgg26 Tryz.sizeOf26 (hS.at _) rfl rfl) ?_
  refine scall Tryz.call84 (.cons rfl .nil) (c_begin (hg.ext hS.ext) (h.ext hS.ext)) ?_
  rintro _ w (⟨he, rfl, hE⟩ | ⟨he, bb, b1, bz, rfl, hM⟩)
  ·
    replace hS := hS.step hE; clear hE
    refine sv (yMove rfl) ?_
    refine sv (yExt rfl rfl) ?_
    refine sv (yExt rfl rfl) ?_
    refine sv (yAsg rfl) ?_
    refine sv (yAsg rfl) ?_
    refine nil ?_
    show Code.wp _ _ _ _ _
    refine seq ?_
    refine block ?_
    refine seq ?_
    refine region ?_
    refine sv (yMove rfl) ?_
    refine sv (yNeq rfl rfl) ?_
    refine sv (yAsg rfl) ?_
    refine nil ?_
    show Code.wp _ _ _ _ _
    refine cond rfl (fun c13 => ?_) (fun c13 => ?_)
    ·
      simp only [BS, ne_eq] at c13
      refine seq ?_
      refine region ?_
      refine sv (yMove rfl) ?_
      refine sv (yAsg rfl) ?_
      refine sv (yAsg rfl) ?_
      refine nil ?_
      show Code.wp _ _ _ _ _
      refine wp_ret (blockR (thenR ?_))
      refine retQ (res2 rfl rfl rfl) ?_
      have hf : atE t now = (checkA t).2.2 := by unfold atE; rw [if_pos he]
      exact .inl ⟨by rw [hf]; exact he, by rw [hf]; rfl, hS.ext⟩
    ·
      simp only [BS, ne_eq] at c13
      exact absurd c13 he
  ·
    replace hS := hS.call hM; clear hM
    replace hS : StX [] w0 w [blk bb [.int .i64 t.polders, .slice a1 t.chans.length cap1, .slice a2 t.towns.length cap2, .slice a3 t.floods.length cap3, .slice (some ⟨b1, 0, none⟩) t.towns.length t.towns.length, .slice (some ⟨bz, 0, none⟩) t.towns.length t.towns.length] 141, blk b1 ((arrS t).flatMap spanC) 44, blk bz ((arrN t).flatMap Bx.encI) 3, blk b2 [.int .i64 t.polders, .slice a1 t.chans.length cap1, .slice a2 t.towns.length cap2, .slice a3 t.floods.length cap3] 26] := hS
    refine sv (yMove rfl) ?_
    refine sv (yExt rfl rfl) ?_
    refine sv (yExt rfl rfl) ?_
    refine sv (yAsg rfl) ?_
    refine sv (yAsg rfl) ?_
    refine nil ?_
    show Code.wp _ _ _ _ _
    refine seq ?_
    refine block ?_
    refine seq ?_
    refine region ?_
    refine sv (yMove rfl) ?_
    refine sv (yNeq rfl rfl) ?_
    refine sv (yAsg rfl) ?_
    refine nil ?_
    show Code.wp _ _ _ _ _
    refine cond rfl (fun c13 => ?_) (fun c13 => ?_)
    ·
      exact absurd c13 (by decide)
    ·
      refine seq ?_
      refine region ?_
      refine sv (yMove rfl) ?_
      refine scall Tryz.call52 (.cons rfl (.cons rfl (.cons rfl .nil))) c_out ?_
      rintro _ w ⟨rfl, hE⟩; replace hS := hS.step hE; clear hE
      refine sv (yAsg rfl) ?_
      refine nil ?_
      show Code.wp _ _ _ _ _
      refine cond rfl (fun c17 => ?_) (fun c17 => ?_)
      ·
        refine seq ?_
        refine region ?_
        refine sv (yAsg rfl) ?_
        refine sv (yAsg rfl) ?_
        refine nil ?_
        show Code.wp _ _ _ _ _
        refine wp_ret (blockR (thenR ?_))
        refine retQ (res2 rfl rfl rfl) ?_
        have hf : atE t now = 7 := by unfold atE; rw [if_neg (fun h => h he), if_pos c17]
        exact .inl ⟨by rw [hf]; decide, by rw [hf]; rfl, hS.ext⟩
      ·
        refine skip ?_
        show Code.wp _ _ _ _ _
        refine seq ?_
        refine region ?_
        refine sv (yMove rfl) ?_
        refine sv (yAsg rfl) ?_
        refine sv (yAsg rfl) ?_
        refine nil ?_
        show Code.wp _ _ _ _ _
        refine wp_ret ?_
        refine retQ (res2 rfl rfl rfl) ?_
        have hf : atE t now = 0 := by unfold atE; rw [if_neg (fun h => h he), if_neg (by rw [c17]; decide)]
        exact .inr ⟨hf, bb, b1, bz, rfl, hS.sub (.cons_cons _ (.cons_cons _ (.cons_cons _ (List.nil_sublist _))))⟩
set_option maxHeartbeats 1000000 in
/-- barrage/alarm.Stage -/
theorem c_Stage {t : Task} {hv nv fv : Value} {i now : Int} {w0 : World} (hg : Glb w0) (h : RTask w0 [.int .i64 t.polders, hv, nv, fv] t) : CV Tryz.prog 25 #[.agg [.int .i64 t.polders, hv, nv, fv].toArray, .int .i64 i, .int .i64 now] w0 (.tuple #[.int .i64 (stageR t i now).1, .int .i64 (stageR t i now).2]) := by
  obtain ⟨hv', nv', fv', he0, hpol, hsh, hsn, hsf⟩ := id h
  obtain ⟨rfl, rfl, rfl⟩ : hv' = hv ∧ nv' = nv ∧ fv' = fv := by simpa [eq_comm] using he0
  obtain ⟨a1, cap1, rfl, hcap1, hmx1, hel1⟩ := id hsh
  obtain ⟨a2, cap2, rfl, hcap2, hmx2, hel2⟩ := id hsn
  obtain ⟨a3, cap3, rfl, hcap3, hmx3, hel3⟩ := id hsf
  refine enter Tryz.func25 rfl Tryz.ntmps25 rfl ?_
  have hS := St.start w0
  refine seq ?_
  refine region ?_
  refine sbox hS rfl rfl ?_; clear hS; intro b3 w hS
  refine sv (yAsg rfl) ?_
  refine sv (yAsg rfl) ?_
  refine nil ?_
  show Code.wp _ _ _ _ _
  refine seq ?_
  refine region ?_
  refine sv (yLdBA rfl Tryz.isAgg26 Tryz.sizeOf26 (hS.at _) rfl rfl) ?_
  refine sv (yMove rfl) ?_
  refine scall Tryz.call69 (.cons rfl (.cons rfl .nil)) (c_of (hg.ext hS.ext) (h.ext hS.ext)) ?_
  rintro _ w (⟨he, rfl, hE⟩ | ⟨he, bb, b1, bz, rfl, hM⟩)
  ·
    replace hS := hS.step hE; clear hE
    refine sv (yMove rfl) ?_
    refine sv (yExt rfl rfl) ?_
    refine sv (yExt rfl rfl) ?_
    refine sv (yAsg rfl) ?_
    refine sv (yAsg rfl) ?_
    refine nil ?_
    show Code.wp _ _ _ _ _
    refine seq ?_
    refine block ?_
    refine seq ?_
    refine region ?_
    refine sv (yMove rfl) ?_
    refine sv (yNeq rfl rfl) ?_
    refine sv (yAsg rfl) ?_
    refine nil ?_
    show Code.wp _ _ _ _ _
    refine cond rfl (fun c16 => ?_) (fun c16 => ?_)
    ·
      simp only [BS, ne_eq] at c16
      refine seq ?_
      refine region ?_
      refine sv (yMove rfl) ?_
      refine sv (yAsg rfl) ?_
      refine sv (yAsg rfl) ?_
      refine nil ?_
      show Code.wp _ _ _ _ _
      have hf : stageR t i now = (0, ofE t i) := by unfold stageR; rw [if_pos he]
      refine wp_ret (blockR (thenR ?_))
      exact retV (res2 rfl (fstI hf) (sndI hf)) hS.ext
    ·
      simp only [BS, ne_eq] at c16
      exact absurd c16 he
  ·
    replace hS := hS.call hM; clear hM
    replace hS : StX [] w0 w [blk bb [.int .i64 t.polders, .slice a1 t.chans.length cap1, .slice a2 t.towns.length cap2, .slice a3 t.floods.length cap3, .slice (some ⟨b1, 0, none⟩) t.towns.length t.towns.length, .slice (some ⟨bz, 0, none⟩) t.towns.length t.towns.length] 141, blk b1 ((arrS t).flatMap spanC) 44, blk bz ((arrN t).flatMap Bx.encI) 3, blk b3 [.int .i64 t.polders, .slice a1 t.chans.length cap1, .slice a2 t.towns.length cap2, .slice a3 t.floods.length cap3] 26] := hS
    obtain ⟨hok, hi⟩ := ofE_ok he
    have hn8 := hok.ntw
    have hab := arr_bd hok hi
    refine sv (yMove rfl) ?_
    refine sv (yExt rfl rfl) ?_
    refine sv (yExt rfl rfl) ?_
    refine sv (yAsg rfl) ?_
    refine sv (yAsg rfl) ?_
    refine nil ?_
    show Code.wp _ _ _ _ _
    refine seq ?_
    refine block ?_
    refine seq ?_
    refine region ?_
    refine sv (yMove rfl) ?_
    refine sv (yNeq rfl rfl) ?_
    refine sv (yAsg rfl) ?_
    refine nil ?_
    show Code.wp _ _ _ _ _
    refine cond rfl (fun c16 => ?_) (fun c16 => ?_)
    ·
      exact absurd c16 (by decide)
    ·
      refine seq ?_
      refine region ?_
      refine sv (yMove rfl) ?_
      refine scall Tryz.call52 (.cons rfl (.cons rfl (.cons rfl .nil))) c_out ?_
      rintro _ w ⟨rfl, hE⟩; replace hS := hS.step hE; clear hE
      refine sv (yAsg rfl) ?_
      refine nil ?_
      show Code.wp _ _ _ _ _
      refine cond rfl (fun c20 => ?_) (fun c20 => ?_)
      ·
        refine seq ?_
        refine region ?_
        refine sv (yAsg rfl) ?_
        refine sv (yAsg rfl) ?_
        refine nil ?_
        show Code.wp _ _ _ _ _
        have hf : stageR t i now = (0, 7) := by unfold stageR; rw [if_neg (fun h => h he), if_pos c20]
        refine wp_ret (blockR (thenR ?_))
        exact retV (res2 rfl (fstI hf) (sndI hf)) hS.ext
      ·
        refine skip ?_
        show Code.wp _ _ _ _ _
        refine seq ?_
        refine region ?_
        refine sv (yMove rfl) ?_
        refine sv (yMove rfl) ?_
        refine sv (yMove rfl) ?_
        refine scall Tryz.call72 (.cons rfl (.cons rfl (.cons rfl .nil))) (c_stage (board_mk (hS.at bb) (h.ext hS.ext) hok (hS.at b1) (hS.at bz)) hi) ?_
        rintro _ w ⟨rfl, hE⟩; replace hS := hS.step hE; clear hE
        refine sv (yAsg rfl) ?_
        refine sv (yAsg rfl) ?_
        refine nil ?_
        show Code.wp _ _ _ _ _
        have hf : stageR t i now = (stageF t i now, 0) := by unfold stageR; rw [if_neg (fun h => h he), if_neg (by rw [c20]; decide)]
        refine wp_ret ?_
        exact retV (res2 rfl (fstI hf) (sndI hf)) hS.ext
end Go.Proofs.YtmoilbakmlekbaaGreatDoor

/- part Aw8 -/
namespace Go.Proofs.YtmoilbakmlekbaaGreatDoor
open Go Bx
/-- (*barrage/alarm.plan).places -/
theorem c_places {bp : Nat} {i : Int} {w0 : World} : CE Tryz.prog 50 #[.pointer (some ⟨bp, 0, none⟩), .int .i64 i] w0 (fun u w' => ∃ i2 i3, u = .func (.func 103) #[] [.pointer (some ⟨i2, 0, none⟩), .pointer (some ⟨i3, 0, none⟩)].toArray ∧ St w0 w' [blk i3 [.int .i64 i] 3, blk i2 [.pointer (some ⟨bp, 0, none⟩)] 103]) := by
  refine enter Tryz.func50 rfl Tryz.ntmps50 rfl ?_
  have hS := St.start w0
  refine seq ?_
  refine region ?_
  refine sbox hS rfl rfl ?_; clear hS; intro b2 w hS
  refine sbox hS rfl rfl ?_; clear hS; intro b3 w hS
  refine sv (yAsg rfl) ?_
  refine nil ?_
  show Code.wp _ _ _ _ _
  refine seq ?_
  refine region ?_
  refine sv (yFn (.cons rfl (.cons rfl .nil))) ?_
  refine sv (yAsg rfl) ?_
  refine nil ?_
  show Code.wp _ _ _ _ _
  refine wp_ret ?_
  refine retQ (res1 rfl rfl) ?_
  exact ⟨b2, b3, rfl, hS⟩
set_option maxHeartbeats 2000000 in
/-- (*barrage/alarm.plan).places closure 1 -/
theorem it_places {t : Task} {bp bb i2 i3 cw : Nat} {aw : Option Addr} {i now : Int} {w0 : World} (hB : RBoard w0 bb t) (hi : 0 ≤ i ∧ i < t.towns.length) (hn : 0 ≤ now ∧ now ≤ 200000) : ItR Tryz.prog 103 [.pointer (some ⟨i2, 0, none⟩), .pointer (some ⟨i3, 0, none⟩)] w0 [blk i3 [.int .i64 i] 3, blk i2 [.pointer (some ⟨bp, 0, none⟩)] 103] plcC (PlRd bp bb now (.slice aw (wetL t).length cw)) ((plT t now).places i) := by
  obtain ⟨a1, c1, a2, c2, a3, c3, a4, c4, a5, c5, T, hb, s1, s2, s3, s4, s5, hok⟩ := id hB.opn
  have hn8 := hok.ntw
  have hf8 := hok.nfl
  have hc4 := hok.nch
  obtain ⟨bt, ot, cst, hat, hlt, hcst, hRt, -⟩ := sl_at s2 (twn_i (t := t) hi)
  obtain ⟨dvt, rfl, -, -, -, -, hslt, -⟩ := hRt
  have hto := town_ok hok hi
  have htl := hto.lead
  obtain ⟨ac, cc, rfl, hccap, hcmx, hcel⟩ := id hslt
  have hwl := wetL_len t
  intro yl Cb w L hRd hY h0 hS
  replace hS : StX [] w0 w (blk i3 [.int .i64 i] 3 :: blk i2 [.pointer (some ⟨bp, 0, none⟩)] 103 :: L) := hS
  have rd : ∀ w, StX [] w0 w (blk i3 [.int .i64 i] 3 :: blk i2 [.pointer (some ⟨bp, 0, none⟩)] 103 :: L) → PlRd bp bb now (.slice aw (wetL t).length cw) w := fun w hS => hRd _ w L [blk i3 [.int .i64 i] 3, blk i2 [.pointer (some ⟨bp, 0, none⟩)] 103] h0 hS
  refine enterX Tryz.func103 rfl Tryz.ntmps103 rfl ?_
  skip
  refine seqX ?_
  refine regionX rfl ?_
  refine sv (yLdB rfl Tryz.isAgg103 (hS.at _) rfl) ?_
  refine sv (yNil rfl) ?_
  refine sv (fa108_1 rfl) ?_
  refine sv (yLd rfl Tryz.isAgg3 ((rd w hS).2.1)) ?_
  refine sv (yAsg rfl) ?_
  refine nil ?_
  show Code.wpIn _ _ _ _ _ _ _
  refine blockX ?_
  refine loopX (fun f w zz => ∃ (d : Nat) (L : List Bx.Item), f 0 = .func (.yield yl) #[] #[] ∧ f 1 = .pointer (some ⟨i2, 0, none⟩) ∧ f 2 = .pointer (some ⟨i3, 0, none⟩) ∧ f 4 = .int .i64 (now + (d : Int)) ∧ StX [] w0 w (blk i3 [.int .i64 i] 3 :: blk i2 [.pointer (some ⟨bp, 0, none⟩)] 103 :: L) ∧ (d ≤ (wetL t).length) ∧ (Cb true (plcP t now i d) L) ∧ zz = (wetL t).length - d) _ ⟨_, rfl, 0, L, rfl, rfl, rfl, (by rw [show now + ((0 : Nat) : Int) = now by omega]; exact rfl), hS, (Nat.zero_le _), (h0), rfl⟩ ?_
  clear hS
  rintro f w _ ⟨d, L, h0, h1, h2, h4, hS, hd, hcb, rfl⟩
  clear rd
  have rd : ∀ w, StX [] w0 w (blk i3 [.int .i64 i] 3 :: blk i2 [.pointer (some ⟨bp, 0, none⟩)] 103 :: L) → PlRd bp bb now (.slice aw (wetL t).length cw) w := fun w hS => hRd _ w L [blk i3 [.int .i64 i] 3, blk i2 [.pointer (some ⟨bp, 0, none⟩)] 103] hcb hS
  refine seqX ?_
  refine seqX ?_
  refine region_drawX mixed (by kernel_rfl) rfl hS ?_
  refine qv (fun w hS => (yMove h4)) ?_
  refine qv (fun w hS => (yLdB h1 Tryz.isAgg103 (hS.at _) rfl)) ?_
  refine qv (fun w hS => (yNil rfl)) ?_
  refine qv (fun w hS => (fa108_1 rfl)) ?_
  refine qv (fun w hS => (yLd rfl Tryz.isAgg3 ((rd w hS).2.1))) ?_
  refine qv (fun w hS => (yLdB h1 Tryz.isAgg103 (hS.at _) rfl)) ?_
  refine qv (fun w hS => (yNil rfl)) ?_
  refine qv (fun w hS => (fa108_2 rfl)) ?_
  refine qv (fun w hS => (yLd rfl Tryz.isAgg34 ((rd w hS).2.2))) ?_
  refine qv (fun w hS => (yLen rfl Tryz.underlying34)) ?_
  refine qv (fun w hS => (yAdd rfl rfl ⟨by omega, by omega⟩)) ?_
  refine qv (fun w hS => (yLss rfl rfl)) ?_
  clear hS; refine qnil (fun w hS => ?_)
  show Code.wpIn _ _ _ _ _ _ _
  refine condX rfl (fun c22 => ?_) (fun c22 => ?_)
  ·
    simp only [BS, ne_eq] at c22
    have hdl : d < (wetL t).length := by omega
    refine skipX ?_
    show Code.wpIn _ _ _ _ _ _ _
    refine seqX ?_
    refine blockX ?_
    refine seqX ?_
    refine region_drawX mixed (by kernel_rfl) rfl hS ?_
    refine qv (fun w hS => (yLdB h1 Tryz.isAgg103 (hS.at _) rfl)) ?_
    refine qv (fun w hS => (yNil rfl)) ?_
    refine qv (fun w hS => (fa108_0 rfl)) ?_
    refine qv (fun w hS => (yLd rfl Tryz.isAgg100 ((rd w hS).1))) ?_
    refine qv (fun w hS => (yNil rfl)) ?_
    refine qv (fun w hS => (fa141_0 rfl)) ?_
    refine qv (fun w hS => (fa26_2 rfl)) ?_
    refine qv (fun w hS => (yLdB rfl Tryz.isAgg23 (hS.ext.get hb) rfl)) ?_
    refine qv (fun w hS => (yLdB h2 Tryz.isAgg3 (hS.at _) rfl)) ?_
    refine qv (fun w hS => (yIxa rfl hat rfl Tryz.runUnderlying23 Tryz.sizeOf36 (by omega) (by omega))) ?_
    refine qv (fun w hS => (fa36_4 rfl)) ?_
    refine qv (fun w hS => (yLd rfl Tryz.isAgg34 ((hcst.ext hS.ext).at (j := 4) rfl))) ?_
    refine qv (fun w hS => (yLen rfl Tryz.underlying34)) ?_
    refine qv (fun w hS => (yMove rfl)) ?_
    clear hS; refine qnil (fun w hS => ?_)
    show Code.wpIn _ _ _ _ _ _ _
    refine blockX ?_
    refine loopX (fun f w zz => ∃ (k : Nat) (L : List Bx.Item), f 0 = .func (.yield yl) #[] #[] ∧ f 1 = .pointer (some ⟨i2, 0, none⟩) ∧ f 2 = .pointer (some ⟨i3, 0, none⟩) ∧ f 4 = .int .i64 (now + (d : Int)) ∧ f 36 = .slice ac (twn t i).chans.length cc ∧ f 37 = .int .i64 ((twn t i).chans.length : Int) ∧ f 38 = .int .i64 (k : Int) ∧ StX [] w0 w (blk i3 [.int .i64 i] 3 :: blk i2 [.pointer (some ⟨bp, 0, none⟩)] 103 :: L) ∧ (k ≤ (twn t i).chans.length) ∧ (Cb true (plcP t now i d ++ (plT t now).at i (now + (d : Int)) ((twn t i).chans.take k)) L) ∧ zz = (twn t i).chans.length - k) _ ⟨_, rfl, 0, L, h0, h1, h2, h4, rfl, rfl, rfl, hS, (Nat.zero_le _), (by simpa [Pl.at] using hcb), rfl⟩ ?_
    clear hS
    rintro f w _ ⟨k, L, h0, h1, h2, h4, h36, h37, h38, hS, hk, hcb, rfl⟩
    clear rd
    have rd : ∀ w, StX [] w0 w (blk i3 [.int .i64 i] 3 :: blk i2 [.pointer (some ⟨bp, 0, none⟩)] 103 :: L) → PlRd bp bb now (.slice aw (wetL t).length cw) w := fun w hS => hRd _ w L [blk i3 [.int .i64 i] 3, blk i2 [.pointer (some ⟨bp, 0, none⟩)] 103] hcb hS
    refine seqX ?_
    refine regionX rfl ?_
    refine sv (yLss h38 h37) ?_
    refine nil ?_
    show Code.wpIn _ _ _ _ _ _ _
    refine seqX ?_
    refine condX rfl (fun c39 => ?_) (fun c39 => ?_)
    ·
      simp only [BS, ne_eq] at c39
      obtain ⟨c, hxc, hdc⟩ := drop_of (l := (twn t i).chans) (k := k) (by omega)
      obtain ⟨bc, oc, csc, hac, hlenc, hcsc, hRc⟩ := hcel (k) (by omega)
      obtain rfl : c = (twn t i).chans[k] := (List.getElem?_eq_some_iff.1 hxc).2.symm
      generalize (twn t i).chans[k] = c at hxc hdc hRc
      obtain ⟨rfl, hcI⟩ := hRc
      have hci := chan_mem hok (List.mem_of_getElem? hxc)
      refine skipX ?_
      show Code.wpIn _ _ _ _ _ _ _
      refine seqX ?_
      refine blockX ?_
      refine seqX ?_
      refine regionX rfl ?_
      refine sv (yIxa h36 hac h38 Tryz.runUnderlying34 Tryz.sizeOf3 (by omega) (by omega)) ?_
      refine sv (yLd rfl Tryz.isAgg3 ((hcsc.ext hS.ext).one)) ?_
      refine sv (yAsg rfl) ?_
      refine nil ?_
      show Code.wpIn _ _ _ _ _ _ _
      refine seqX ?_
      refine region_tailYX mixed 14 (by kernel_rfl) rfl hS ?_
      refine qv (fun w hS => (yMove h4)) ?_
      refine qv (fun w hS => (yLdB h1 Tryz.isAgg103 (hS.at _) rfl)) ?_
      refine qv (fun w hS => (yNil rfl)) ?_
      refine qv (fun w hS => (fa108_0 rfl)) ?_
      refine qv (fun w hS => (yLd rfl Tryz.isAgg100 ((rd w hS).1))) ?_
      refine qv (fun w hS => (yLdB h2 Tryz.isAgg3 (hS.at _) rfl)) ?_
      refine qv (fun w hS => (yMove rfl)) ?_
      refine qcall Tryz.call104 (.cons rfl (.cons rfl (.cons rfl .nil))) (fun w hS => (c_latest (hB.ext hS.ext) hi hci)) ?_
      refine qv (fun w hS => (yLeq rfl rfl)) ?_
      refine qv (fun w hS => (yMove rfl)) ?_
      refine qg rfl rfl rfl (fun g w hS => (yMove h0)) (fun v52 g52 => ?_)
      refine qg rfl rfl rfl (fun g w hS => (yMove rfl)) (fun v53 g53 => ?_)
      refine qg rfl rfl rfl (fun g w hS => (yMove h4)) (fun v54 g54 => ?_)
      refine qg rfl rfl rfl (fun g w hS => (yBuild Tryz.zeroValue115 rfl pl115 (.cons (g53.1 g) rfl (.cons (g54.1 g) rfl (.cons rfl rfl .nil))) rfl)) (fun v55 g55 => ?_)
      clear hS; refine qtlY (fun w hS => ?_)
      show wpListIn _ _ _ _ _ _ _ _
      refine yieldG rfl rfl rfl (fun hne => ?_) (fun g => ⟨(g52.1 g), (.cons (g55.1 g) .nil), (hY (plcP t now i d ++ (plT t now).at i (now + (d : Int)) ((twn t i).chans.take k)) (c, now + (d : Int)) w L [blk i3 [.int .i64 i] 3, blk i2 [.pointer (some ⟨bp, 0, none⟩)] 103] (plc_pre hdl hxc (of_decide_eq_true g)) hcb hS), ?_⟩)
      ·
        refine endX rfl ?_
        refine sg rfl rfl rfl (fun g => (yNot (show _ = Value.bool true from absurd g hne))) (fun v57 g57 => ?_)
        refine sv (yAnd rfl (fun hB => (g57.1 hB)) rfl) ?_
        refine nil ?_
        show Code.wpIn _ _ _ _ _ _ _
        refine condX rfl (fun c58 => ?_) (fun c58 => ?_)
        ·
          skip
          exfalso; apply hne; revert c58; cases decide (now + (d : Int) ≤ latestF t i c) <;> simp
        ·
          skip
          have hlt2 : ¬ now + (d : Int) ≤ latestF t i c := fun h => hne (decide_eq_true h)
          refine skipX ?_
          show Code.wpIn _ _ _ _ _ _ _
          refine regionX rfl ?_
          refine sv (yAdd h38 rfl ⟨by omega, by omega⟩) ?_
          refine sv (yMove rfl) ?_
          refine nil ?_
          exact ⟨_, _, rfl, ⟨k + 1, L, h0, h1, h2, h4, h36, h37, rfl, hS, (by omega), (by rw [at_out hxc hlt2]; exact hcb), rfl⟩, by omega⟩
      ·
        have g := of_decide_eq_true g
        clear hS hcb rd; rintro _ w ⟨bq, L, rfl, hcb, hS⟩
        replace hS : StX [] w0 w (blk i3 [.int .i64 i] 3 :: blk i2 [.pointer (some ⟨bp, 0, none⟩)] 103 :: L) := hS
        refine endX rfl ?_
        refine sg rfl rfl rfl (fun g => (yNot rfl)) (fun v57 g57 => ?_)
        refine sv (yAnd rfl (fun hB => (g57.1 hB)) rfl) ?_
        refine nil ?_
        show Code.wpIn _ _ _ _ _ _ _
        refine condX rfl (fun c58 => ?_) (fun c58 => ?_)
        ·
          skip
          obtain rfl : bq = false := by cases bq; rfl; simp at c58
          refine wpIn_ret (blockR (thenR (thenR (blockR (blockR (thenR (thenR (blockR ?_))))))))
          refine leafX (results_none rfl _ _ _) ?_
          exact ⟨L, hS.sub (.cons _ (.cons _ (List.Sublist.refl _))), .inr ⟨_, hcb⟩⟩
        ·
          skip
          obtain rfl : bq = true := by cases bq; simp [g] at c58; rfl
          refine skipX ?_
          show Code.wpIn _ _ _ _ _ _ _
          refine regionX rfl ?_
          refine sv (yAdd h38 rfl ⟨by omega, by omega⟩) ?_
          refine sv (yMove rfl) ?_
          refine nil ?_
          exact ⟨_, _, rfl, ⟨k + 1, L, h0, h1, h2, h4, h36, h37, rfl, hS, (by omega), (by rw [at_in hxc g, ← List.append_assoc]; exact hcb), rfl⟩, by omega⟩
    ·
      simp only [BS, ne_eq] at c39
      obtain rfl : k = (twn t i).chans.length := by omega
      refine exitX ?_
      show Code.wpIn _ _ _ _ _ _ _
      refine regionX rfl ?_
      refine sv (yMove h4) ?_
      refine sv (yAdd rfl rfl ⟨by omega, by omega⟩) ?_
      refine sv (yAsg rfl) ?_
      refine nil ?_
      exact ⟨_, _, rfl, ⟨d + 1, L, h0, h1, h2, (by rw [show now + ((d + 1 : Nat) : Int) = now + (d : Int) + 1 by omega]; exact rfl), hS, (by omega), (by rw [plcP_succ]; rw [List.take_length] at hcb; exact hcb), rfl⟩, by omega⟩
  ·
    simp only [BS, ne_eq] at c22
    refine exitX ?_
    show bodyPostM (FX none) 0 _ _ _ .normal _ _
    refine leafXN (results_none rfl _ _ _) ?_
    obtain rfl : d = (wetL t).length := by omega
    exact ⟨L, hS.sub (.cons _ (.cons _ (List.Sublist.refl _))), .inl hcb⟩
end Go.Proofs.YtmoilbakmlekbaaGreatDoor

/- part Aw9 -/
namespace Go.Proofs.YtmoilbakmlekbaaGreatDoor
open Go Bx
set_option maxHeartbeats 4000000 in
/-- (*barrage/alarm.plan).settle closure 1 -/
theorem c_move1 {t : Task} {bp bb cw mt ms mf mr q3 q5 q7 q8 : Nat} {aw : Option Addr} {now : Int} {fx : Int → Bool} {w0 : World} (hB : RBoard w0 bb t) (hn : 0 ≤ now ∧ now ≤ 200000) {n : Nat} (hrec : ∀ (o : Int) (st : Mst) (w : World) (L : List Bx.Item), cntU (UU t now) st.tried < n → Vld t st.taken → 0 ≤ o ∧ o < t.towns.length → StX [] w0 w (blk q8 [.func (.func 102) #[] ([.pointer (some ⟨q3, 0, none⟩), .pointer (some ⟨q7, 0, none⟩), .pointer (some ⟨q5, 0, none⟩), .pointer (some ⟨q8, 0, none⟩)] : List Value).toArray] 130 :: blk q7 [.map (some mr)] 176 :: blk q5 [.map (some mf)] 109 :: blk q3 [.pointer (some ⟨bp, 0, none⟩)] 103 :: blk bp [.pointer (some ⟨bb, 0, none⟩), .int .i64 now, .slice aw (wetL t).length cw, .map (some mt), .map (some ms)] 108 :: mapF mt encSt (Value.int .i64) (st.taken) :: mapF ms (Value.int .i64) encSt (st.seats) :: mapF mf (Value.int .i64) Value.bool (trF (fx)) :: mapF mr encSt Value.bool (trF (st.tried)) :: L) → CE Tryz.prog 102 #[.int .i64 o, .pointer (some ⟨q3, 0, none⟩), .pointer (some ⟨q7, 0, none⟩), .pointer (some ⟨q5, 0, none⟩), .pointer (some ⟨q8, 0, none⟩)] w (fun u w' => u = .bool (moveF fx (plT t now).sl n o st).1 ∧ StX [] w0 w' (blk q8 [.func (.func 102) #[] ([.pointer (some ⟨q3, 0, none⟩), .pointer (some ⟨q7, 0, none⟩), .pointer (some ⟨q5, 0, none⟩), .pointer (some ⟨q8, 0, none⟩)] : List Value).toArray] 130 :: blk q7 [.map (some mr)] 176 :: blk q5 [.map (some mf)] 109 :: blk q3 [.pointer (some ⟨bp, 0, none⟩)] 103 :: blk bp [.pointer (some ⟨bb, 0, none⟩), .int .i64 now, .slice aw (wetL t).length cw, .map (some mt), .map (some ms)] 108 :: mapF mt encSt (Value.int .i64) ((moveF fx (plT t now).sl n o st).2.taken) :: mapF ms (Value.int .i64) encSt ((moveF fx (plT t now).sl n o st).2.seats) :: mapF mf (Value.int .i64) Value.bool (trF (fx)) :: mapF mr encSt Value.bool (trF ((moveF fx (plT t now).sl n o st).2.tried)) :: L))) {i : Int} {st0 : Mst} {w : World} {L9 : List Bx.Item} (hcn0 : cntU (UU t now) st0.tried < n + 1) (hvl0 : Vld t st0.taken) (hi : 0 ≤ i ∧ i < t.towns.length) (hS : StX [] w0 w (blk q8 [.func (.func 102) #[] ([.pointer (some ⟨q3, 0, none⟩), .pointer (some ⟨q7, 0, none⟩), .pointer (some ⟨q5, 0, none⟩), .pointer (some ⟨q8, 0, none⟩)] : List Value).toArray] 130 :: blk q7 [.map (some mr)] 176 :: blk q5 [.map (some mf)] 109 :: blk q3 [.pointer (some ⟨bp, 0, none⟩)] 103 :: blk bp [.pointer (some ⟨bb, 0, none⟩), .int .i64 now, .slice aw (wetL t).length cw, .map (some mt), .map (some ms)] 108 :: mapF mt encSt (Value.int .i64) (st0.taken) :: mapF ms (Value.int .i64) encSt (st0.seats) :: mapF mf (Value.int .i64) Value.bool (trF (fx)) :: mapF mr encSt Value.bool (trF (st0.tried)) :: L9)) : CE Tryz.prog 102 #[.int .i64 i, .pointer (some ⟨q3, 0, none⟩), .pointer (some ⟨q7, 0, none⟩), .pointer (some ⟨q5, 0, none⟩), .pointer (some ⟨q8, 0, none⟩)] w (fun u w' => u = .bool (moveF fx (plT t now).sl (n + 1) i st0).1 ∧ StX [] w0 w' (blk q8 [.func (.func 102) #[] ([.pointer (some ⟨q3, 0, none⟩), .pointer (some ⟨q7, 0, none⟩), .pointer (some ⟨q5, 0, none⟩), .pointer (some ⟨q8, 0, none⟩)] : List Value).toArray] 130 :: blk q7 [.map (some mr)] 176 :: blk q5 [.map (some mf)] 109 :: blk q3 [.pointer (some ⟨bp, 0, none⟩)] 103 :: blk bp [.pointer (some ⟨bb, 0, none⟩), .int .i64 now, .slice aw (wetL t).length cw, .map (some mt), .map (some ms)] 108 :: mapF mt encSt (Value.int .i64) ((moveF fx (plT t now).sl (n + 1) i st0).2.taken) :: mapF ms (Value.int .i64) encSt ((moveF fx (plT t now).sl (n + 1) i st0).2.seats) :: mapF mf (Value.int .i64) Value.bool (trF (fx)) :: mapF mr encSt Value.bool (trF ((moveF fx (plT t now).sl (n + 1) i st0).2.tried)) :: L9)) := by
  obtain ⟨a1, c1, a2, c2, a3, c3, a4, c4, a5, c5, T, hb, s1, s2, s3, s4, s5, hok⟩ := id hB.opn
  have hn8 := hok.ntw
  have hf8 := hok.nfl
  have hc4 := hok.nch
  refine enterX Tryz.func102 rfl Tryz.ntmps102 rfl ?_
  skip
  refine seqX ?_
  refine regionX rfl ?_
  refine sbox hS rfl rfl ?_; clear hS; intro b5 w hS
  refine salloc hS Tryz.zeroValue4 rfl ?_; clear hS; intro b6 w hS
  refine nil ?_
  show Code.wpIn _ _ _ _ _ _ _
  refine seqX ?_
  refine seqX ?_
  refine regionX rfl ?_
  refine sv (yLdB rfl Tryz.isAgg103 (hS.at _) rfl) ?_
  refine sv (yLdB rfl Tryz.isAgg3 (hS.at _) rfl) ?_
  refine scall Tryz.call50 (.cons rfl (.cons rfl .nil)) c_places ?_
  rintro _ w ⟨i2, i3, rfl, hM⟩; replace hS := hS.call hM; clear hM
  refine nil ?_
  show Code.wpIn _ _ _ _ _ _ _
  refine blockX ?_
  refine rangeR (R := [blk i3 [.int .i64 i] 3, blk i2 [.pointer (some ⟨bp, 0, none⟩)] 103]) (L0 := blk b6 [.bool false] 4 :: blk b5 [.int .i64 i] 3 :: blk q8 [.func (.func 102) #[] ([.pointer (some ⟨q3, 0, none⟩), .pointer (some ⟨q7, 0, none⟩), .pointer (some ⟨q5, 0, none⟩), .pointer (some ⟨q8, 0, none⟩)] : List Value).toArray] 130 :: blk q7 [.map (some mr)] 176 :: blk q5 [.map (some mf)] 109 :: blk q3 [.pointer (some ⟨bp, 0, none⟩)] 103 :: blk bp [.pointer (some ⟨bb, 0, none⟩), .int .i64 now, .slice aw (wetL t).length cw, .map (some mt), .map (some ms)] 108 :: mapF mt encSt (Value.int .i64) (st0.taken) :: mapF ms (Value.int .i64) encSt (st0.seats) :: mapF mf (Value.int .i64) Value.bool (trF (fx)) :: mapF mr encSt Value.bool (trF (st0.tried)) :: L9) (ps := [13]) rfl Tryz.call103 hS (it_places hB hi hn) (fun cc pre L => (cc = none ∧ ∃ st, L = blk b6 [.bool false] 4 :: blk b5 [.int .i64 i] 3 :: blk q8 [.func (.func 102) #[] ([.pointer (some ⟨q3, 0, none⟩), .pointer (some ⟨q7, 0, none⟩), .pointer (some ⟨q5, 0, none⟩), .pointer (some ⟨q8, 0, none⟩)] : List Value).toArray] 130 :: blk q7 [.map (some mr)] 176 :: blk q5 [.map (some mf)] 109 :: blk q3 [.pointer (some ⟨bp, 0, none⟩)] 103 :: blk bp [.pointer (some ⟨bb, 0, none⟩), .int .i64 now, .slice aw (wetL t).length cw, .map (some mt), .map (some ms)] 108 :: mapF mt encSt (Value.int .i64) (st.taken) :: mapF ms (Value.int .i64) encSt (st.seats) :: mapF mf (Value.int .i64) Value.bool (trF (fx)) :: mapF mr encSt Value.bool (trF (st.tried)) :: L9 ∧ Vld t st.taken ∧ cntU (UU t now) st.tried < n + 1 ∧ (∀ post, (plT t now).places i = pre ++ post → goF fx (moveF fx (plT t now).sl n) i ((plT t now).sl i) st0 = goF fx (moveF fx (plT t now).sl n) i (post.flatMap (plT t now).nums) st)) ∨ (cc = some .ret ∧ ∃ st, L = blk b6 [.bool true] 4 :: blk b5 [.int .i64 i] 3 :: blk q8 [.func (.func 102) #[] ([.pointer (some ⟨q3, 0, none⟩), .pointer (some ⟨q7, 0, none⟩), .pointer (some ⟨q5, 0, none⟩), .pointer (some ⟨q8, 0, none⟩)] : List Value).toArray] 130 :: blk q7 [.map (some mr)] 176 :: blk q5 [.map (some mf)] 109 :: blk q3 [.pointer (some ⟨bp, 0, none⟩)] 103 :: blk bp [.pointer (some ⟨bb, 0, none⟩), .int .i64 now, .slice aw (wetL t).length cw, .map (some mt), .map (some ms)] 108 :: mapF mt encSt (Value.int .i64) (st.taken) :: mapF ms (Value.int .i64) encSt (st.seats) :: mapF mf (Value.int .i64) Value.bool (trF (fx)) :: mapF mr encSt Value.bool (trF (st.tried)) :: L9 ∧ goF fx (moveF fx (plT t now).sl n) i ((plT t now).sl i) st0 = (true, st))) (.inl ⟨rfl, st0, rfl, hvl0, hcn0, fun post hp => by rw [List.nil_append] at hp; rw [← hp]; rfl⟩) (fun _ _ => rfl) (fun pre w L M hcb hS => by
    obtain ⟨-, st, rfl, -⟩ := hcb.resolve_right (fun h => by cases h.1)
    replace hS : StX [] w0 w (blk b6 [.bool false] 4 :: blk b5 [.int .i64 i] 3 :: blk q8 [.func (.func 102) #[] ([.pointer (some ⟨q3, 0, none⟩), .pointer (some ⟨q7, 0, none⟩), .pointer (some ⟨q5, 0, none⟩), .pointer (some ⟨q8, 0, none⟩)] : List Value).toArray] 130 :: blk q7 [.map (some mr)] 176 :: blk q5 [.map (some mf)] 109 :: blk q3 [.pointer (some ⟨bp, 0, none⟩)] 103 :: blk bp [.pointer (some ⟨bb, 0, none⟩), .int .i64 now, .slice aw (wetL t).length cw, .map (some mt), .map (some ms)] 108 :: mapF mt encSt (Value.int .i64) (st.taken) :: mapF ms (Value.int .i64) encSt (st.seats) :: mapF mf (Value.int .i64) Value.bool (trF (fx)) :: mapF mr encSt Value.bool (trF (st.tried)) :: (L9 ++ M)) := hS
    exact plRd_of (hS.at bp)) ?_ ?_ ?_
  ·
    clear hS
    intro yl pre x w L M hpre hcb hS
    obtain ⟨-, st, rfl, hvl, hcn, hI⟩ := hcb.resolve_right (fun h => by cases h.1)
    obtain ⟨post, hpost⟩ := id hpre
    rw [List.append_assoc] at hpost
    have hxp : x ∈ (plT t now).places i := by rw [← hpost]; simp
    have hc := plc_chan hok hxp
    replace hI := hI _ hpost.symm
    obtain ⟨bc, oc, csc, hac, hlc, hcsc, hRc, -⟩ := sl_at s1 (chn_i (t := t) hc)
    obtain ⟨rfl, -⟩ := hRc
    have hco := chan_ok hok hc
    replace hS : StX [] w0 w (blk b6 [.bool false] 4 :: blk b5 [.int .i64 i] 3 :: blk q8 [.func (.func 102) #[] ([.pointer (some ⟨q3, 0, none⟩), .pointer (some ⟨q7, 0, none⟩), .pointer (some ⟨q5, 0, none⟩), .pointer (some ⟨q8, 0, none⟩)] : List Value).toArray] 130 :: blk q7 [.map (some mr)] 176 :: blk q5 [.map (some mf)] 109 :: blk q3 [.pointer (some ⟨bp, 0, none⟩)] 103 :: blk bp [.pointer (some ⟨bb, 0, none⟩), .int .i64 now, .slice aw (wetL t).length cw, .map (some mt), .map (some ms)] 108 :: mapF mt encSt (Value.int .i64) (st.taken) :: mapF ms (Value.int .i64) encSt (st.seats) :: mapF mf (Value.int .i64) Value.bool (trF (fx)) :: mapF mr encSt Value.bool (trF (st.tried)) :: (L9 ++ M)) := hS
    refine regionX rfl ?_
    refine salloc hS Tryz.zeroValue115 rfl ?_; clear hS; intro b7 w hS
    refine sst hS rfl rfl Tryz.sizeOf115 rfl rfl rfl rfl ?_; clear hS; intro w hS
    refine nil ?_
    refine ⟨_, blk b7 [.int .i64 x.1, .int .i64 x.2, .int .i64 0] 115 :: blk b6 [.bool false] 4 :: blk b5 [.int .i64 i] 3 :: blk q8 [.func (.func 102) #[] ([.pointer (some ⟨q3, 0, none⟩), .pointer (some ⟨q7, 0, none⟩), .pointer (some ⟨q5, 0, none⟩), .pointer (some ⟨q8, 0, none⟩)] : List Value).toArray] 130 :: blk q7 [.map (some mr)] 176 :: blk q5 [.map (some mf)] 109 :: blk q3 [.pointer (some ⟨bp, 0, none⟩)] 103 :: blk bp [.pointer (some ⟨bb, 0, none⟩), .int .i64 now, .slice aw (wetL t).length cw, .map (some mt), .map (some ms)] 108 :: mapF mt encSt (Value.int .i64) (st.taken) :: mapF ms (Value.int .i64) encSt (st.seats) :: mapF mf (Value.int .i64) Value.bool (trF (fx)) :: mapF mr encSt Value.bool (trF (st.tried)) :: L9, rfl, hS, ?_⟩
    clear hS M; intro M w hS; replace hS : StX [] w0 w (blk b7 [.int .i64 x.1, .int .i64 x.2, .int .i64 0] 115 :: blk b6 [.bool false] 4 :: blk b5 [.int .i64 i] 3 :: blk q8 [.func (.func 102) #[] ([.pointer (some ⟨q3, 0, none⟩), .pointer (some ⟨q7, 0, none⟩), .pointer (some ⟨q5, 0, none⟩), .pointer (some ⟨q8, 0, none⟩)] : List Value).toArray] 130 :: blk q7 [.map (some mr)] 176 :: blk q5 [.map (some mf)] 109 :: blk q3 [.pointer (some ⟨bp, 0, none⟩)] 103 :: blk bp [.pointer (some ⟨bb, 0, none⟩), .int .i64 now, .slice aw (wetL t).length cw, .map (some mt), .map (some ms)] 108 :: mapF mt encSt (Value.int .i64) (st.taken) :: mapF ms (Value.int .i64) encSt (st.seats) :: mapF mf (Value.int .i64) Value.bool (trF (fx)) :: mapF mr encSt Value.bool (trF (st.tried)) :: (L9 ++ M)) := hS
    refine blockX ?_
    refine seqX ?_
    refine region_drawX mixed (by kernel_rfl) rfl hS ?_
    refine qv (fun w hS => (yLdB rfl Tryz.isAgg103 (hS.at _) rfl)) ?_
    refine qv (fun w hS => (yNil rfl)) ?_
    refine qv (fun w hS => (fa108_0 rfl)) ?_
    refine qv (fun w hS => (yLdB rfl Tryz.isAgg100 (hS.at _) rfl)) ?_
    refine qv (fun w hS => (yNil rfl)) ?_
    refine qv (fun w hS => (fa141_0 rfl)) ?_
    refine qv (fun w hS => (fa26_1 rfl)) ?_
    refine qv (fun w hS => (yLdB rfl Tryz.isAgg22 (hS.ext.get hb) rfl)) ?_
    refine qv (fun w hS => (fa115_0 rfl)) ?_
    refine qv (fun w hS => (yLdB rfl Tryz.isAgg3 (hS.at _) rfl)) ?_
    refine qv (fun w hS => (yIxa rfl hac rfl Tryz.runUnderlying22 Tryz.sizeOf41 (by omega) (by omega))) ?_
    refine qv (fun w hS => (fa41_2 rfl)) ?_
    refine qv (fun w hS => (yLd rfl Tryz.isAgg3 ((hcsc.ext hS.ext).at (j := 2) rfl))) ?_
    refine qv (fun w hS => (yMove rfl)) ?_
    clear hS; refine qnil (fun w hS => ?_)
    show Code.wpIn _ _ _ _ _ _ _
    refine blockX ?_
    refine loopX (fun f w zz => ∃ (k : Nat) (z : Int) (st : Mst), f 1 = .pointer (some ⟨q3, 0, none⟩) ∧ f 2 = .pointer (some ⟨q7, 0, none⟩) ∧ f 3 = .pointer (some ⟨q5, 0, none⟩) ∧ f 4 = .pointer (some ⟨q8, 0, none⟩) ∧ f 5 = .pointer (some ⟨b5, 0, none⟩) ∧ f 6 = .pointer (some ⟨b6, 0, none⟩) ∧ f 7 = .pointer (some ⟨b7, 0, none⟩) ∧ f 26 = .int .i64 (chn t x.1).room ∧ f 27 = .int .i64 (k : Int) ∧ StX [] w0 w (blk b7 [.int .i64 x.1, .int .i64 x.2, .int .i64 z] 115 :: blk b6 [.bool false] 4 :: blk b5 [.int .i64 i] 3 :: blk q8 [.func (.func 102) #[] ([.pointer (some ⟨q3, 0, none⟩), .pointer (some ⟨q7, 0, none⟩), .pointer (some ⟨q5, 0, none⟩), .pointer (some ⟨q8, 0, none⟩)] : List Value).toArray] 130 :: blk q7 [.map (some mr)] 176 :: blk q5 [.map (some mf)] 109 :: blk q3 [.pointer (some ⟨bp, 0, none⟩)] 103 :: blk bp [.pointer (some ⟨bb, 0, none⟩), .int .i64 now, .slice aw (wetL t).length cw, .map (some mt), .map (some ms)] 108 :: mapF mt encSt (Value.int .i64) (st.taken) :: mapF ms (Value.int .i64) encSt (st.seats) :: mapF mf (Value.int .i64) Value.bool (trF (fx)) :: mapF mr encSt Value.bool (trF (st.tried)) :: (L9 ++ M)) ∧ ((k : Int) ≤ (chn t x.1).room) ∧ (Vld t st.taken) ∧ (cntU (UU t now) st.tried < n + 1) ∧ (goF fx (moveF fx (plT t now).sl n) i ((plT t now).sl i) st0 = goF fx (moveF fx (plT t now).sl n) i (((plT t now).nums x).drop k ++ post.flatMap (plT t now).nums) st) ∧ zz = (chn t x.1).room.toNat - k) _ ⟨_, rfl, 0, 0, st, rfl, rfl, rfl, rfl, rfl, rfl, rfl, rfl, rfl, hS, (by omega), (hvl), (hcn), (by rw [hI]; rfl), rfl⟩ ?_
    clear hS
    rintro f w _ ⟨k, z, st, h1, h2, h3, h4, h5, h6, h7, h26, h27, hS, hk, hvl, hcn, hI, rfl⟩
    refine seqX ?_
    refine regionX rfl ?_
    refine sv (yLss h27 h26) ?_
    refine nil ?_
    show Code.wpIn _ _ _ _ _ _ _
    refine seqX ?_
    refine condX rfl (fun c28 => ?_) (fun c28 => ?_)
    ·
      simp only [BS, ne_eq] at c28
      have hkr : (k : Int) < (chn t x.1).room := c28
      refine skipX ?_
      show Code.wpIn _ _ _ _ _ _ _
      refine seqX ?_
      refine blockX ?_
      refine seqX ?_
      refine regionX rfl ?_
      refine sv (yMove h27) ?_
      refine sv (fa115_2 h7) ?_
      refine sst hS rfl rfl Tryz.sizeOf3 rfl rfl rfl rfl ?_; clear hS; intro w hS
      refine nil ?_
      show Code.wpIn _ _ _ _ _ _ _
      refine seqX ?_
      refine seqX ?_
      refine regionX rfl ?_
      refine sv (yLdB h2 Tryz.isAgg176 (hS.at _) rfl) ?_
      refine sv (yLdBA h7 Tryz.isAgg115 Tryz.sizeOf115 (hS.at _) rfl rfl) ?_
      refine sv (yLookF (F := trF st.tried) (dec := Value.bool) (z := .bool false) (k := ((x.1, x.2, (k : Int)) : Seat)) rfl rfl Tryz.runUnderlying176 keyS Tryz.zeroValue4 (hS.is _) (tr_look _ _)) ?_
      refine nil ?_
      show Code.wpIn _ _ _ _ _ _ _
      refine condX rfl (fun c33 => ?_) (fun c33 => ?_)
      ·
        refine exitX ?_
        show Code.wpIn _ _ _ _ _ _ _
        refine cutX (fun f => f 1 = .pointer (some ⟨q3, 0, none⟩) ∧ f 2 = .pointer (some ⟨q7, 0, none⟩) ∧ f 3 = .pointer (some ⟨q5, 0, none⟩) ∧ f 4 = .pointer (some ⟨q8, 0, none⟩) ∧ f 5 = .pointer (some ⟨b5, 0, none⟩) ∧ f 6 = .pointer (some ⟨b6, 0, none⟩) ∧ f 7 = .pointer (some ⟨b7, 0, none⟩) ∧ f 26 = .int .i64 (chn t x.1).room ∧ f 27 = .int .i64 (k : Int) ∧ True) ⟨h1, h2, h3, h4, h5, h6, h7, h26, h27, trivial⟩ ?_
        rintro f ⟨h1, h2, h3, h4, h5, h6, h7, h26, h27, -⟩
        refine regionX rfl ?_
        refine sv (yAdd h27 rfl ⟨by omega, by omega⟩) ?_
        refine sv (yMove rfl) ?_
        refine nil ?_
        exact ⟨_, _, rfl, ⟨k + 1, (k : Int), st, h1, h2, h3, h4, h5, h6, h7, h26, rfl, hS, (by omega), (hvl), (hcn), (by rw [hI, nums_drop hkr, List.cons_append, goF_skip c33]), rfl⟩, by omega⟩
      ·
        have htr : st.tried ((x.1, x.2, (k : Int)) : Seat) = false := c33
        have hlt := cntU_mark (seat_UU hok hxp hkr) htr
        refine skipX ?_
        show Code.wpIn _ _ _ _ _ _ _
        refine seqX ?_
        refine regionX rfl ?_
        refine sv (yLdB h2 Tryz.isAgg176 (hS.at _) rfl) ?_
        refine sv (yLdBA h7 Tryz.isAgg115 Tryz.sizeOf115 (hS.at _) rfl rfl) ?_
        refine smapsetF (enc := encSt) (dec := Value.bool) (k := ((x.1, x.2, (k : Int)) : Seat)) (u := true) hS rfl rfl rfl Tryz.runUnderlying176 keyS ?_; clear hS; intro w hS
        rw [tr_set] at hS
        replace hS : StX [] w0 w (blk b7 [.int .i64 x.1, .int .i64 x.2, .int .i64 (k : Int)] 115 :: blk b6 [.bool false] 4 :: blk b5 [.int .i64 i] 3 :: blk q8 [.func (.func 102) #[] ([.pointer (some ⟨q3, 0, none⟩), .pointer (some ⟨q7, 0, none⟩), .pointer (some ⟨q5, 0, none⟩), .pointer (some ⟨q8, 0, none⟩)] : List Value).toArray] 130 :: blk q7 [.map (some mr)] 176 :: blk q5 [.map (some mf)] 109 :: blk q3 [.pointer (some ⟨bp, 0, none⟩)] 103 :: blk bp [.pointer (some ⟨bb, 0, none⟩), .int .i64 now, .slice aw (wetL t).length cw, .map (some mt), .map (some ms)] 108 :: mapF mt encSt (Value.int .i64) ((st.mark ((x.1, x.2, (k : Int)) : Seat)).taken) :: mapF ms (Value.int .i64) encSt ((st.mark ((x.1, x.2, (k : Int)) : Seat)).seats) :: mapF mf (Value.int .i64) Value.bool (trF (fx)) :: mapF mr encSt Value.bool (trF ((st.mark ((x.1, x.2, (k : Int)) : Seat)).tried)) :: (L9 ++ M)) := hS
        refine nil ?_
        show Code.wpIn _ _ _ _ _ _ _
        refine seqX ?_
        refine cutX (fun f => f 1 = .pointer (some ⟨q3, 0, none⟩) ∧ f 2 = .pointer (some ⟨q7, 0, none⟩) ∧ f 3 = .pointer (some ⟨q5, 0, none⟩) ∧ f 4 = .pointer (some ⟨q8, 0, none⟩) ∧ f 5 = .pointer (some ⟨b5, 0, none⟩) ∧ f 6 = .pointer (some ⟨b6, 0, none⟩) ∧ f 7 = .pointer (some ⟨b7, 0, none⟩) ∧ f 26 = .int .i64 (chn t x.1).room ∧ f 27 = .int .i64 (k : Int) ∧ True) ⟨h1, h2, h3, h4, h5, h6, h7, h26, h27, trivial⟩ ?_
        rintro f ⟨h1, h2, h3, h4, h5, h6, h7, h26, h27, -⟩
        rcases look3 (st.taken ((x.1, x.2, (k : Int)) : Seat)) fx with ht | ⟨o, ht, hf⟩ | ⟨o, ht, hf⟩
        ·
          obtain ⟨isB, his⟩ : ∃ b : Bool, b = false := ⟨_, rfl⟩
          refine cutX (fun f => f 1 = .pointer (some ⟨q3, 0, none⟩) ∧ f 2 = .pointer (some ⟨q7, 0, none⟩) ∧ f 3 = .pointer (some ⟨q5, 0, none⟩) ∧ f 4 = .pointer (some ⟨q8, 0, none⟩) ∧ f 5 = .pointer (some ⟨b5, 0, none⟩) ∧ f 6 = .pointer (some ⟨b6, 0, none⟩) ∧ f 7 = .pointer (some ⟨b7, 0, none⟩) ∧ f 26 = .int .i64 (chn t x.1).room ∧ f 27 = .int .i64 (k : Int) ∧ True) ⟨h1, h2, h3, h4, h5, h6, h7, h26, h27, trivial⟩ ?_
          rintro f ⟨h1, h2, h3, h4, h5, h6, h7, h26, h27, -⟩
          refine region_drawX mixed (by kernel_rfl) rfl hS ?_
          refine qv (fun w hS => (yLdB h1 Tryz.isAgg103 (hS.at _) rfl)) ?_
          refine qv (fun w hS => (yNil rfl)) ?_
          refine qv (fun w hS => (fa108_3 rfl)) ?_
          refine qv (fun w hS => (yLdB rfl Tryz.isAgg105 (hS.at _) rfl)) ?_
          refine qv (fun w hS => (yLdBA h7 Tryz.isAgg115 Tryz.sizeOf115 (hS.at _) rfl rfl)) ?_
          refine qv (fun w hS => (yLookFOk' (dec := Value.int .i64) (k := ((x.1, x.2, (k : Int)) : Seat)) (show (st.mark ((x.1, x.2, (k : Int)) : Seat)).taken ((x.1, x.2, (k : Int)) : Seat) = none from ht) (show _ = Value.int .i64 0 from rfl) his rfl rfl Tryz.runUnderlying105 keyS Tryz.zeroValue3 (hS.is _))) ?_
          refine qv (fun w hS => (yMove rfl)) ?_
          refine qv (fun w hS => (yExt rfl rfl)) ?_
          refine qv (fun w hS => (yExt rfl rfl)) ?_
          refine qv (fun w hS => (yAsg rfl)) ?_
          refine qv (fun w hS => (yAsg rfl)) ?_
          clear hS; refine qnil (fun w hS => ?_)
          show Code.wpIn _ _ _ _ _ _ _
          refine seqX ?_
          refine cutX (fun f => f 1 = .pointer (some ⟨q3, 0, none⟩) ∧ f 2 = .pointer (some ⟨q7, 0, none⟩) ∧ f 3 = .pointer (some ⟨q5, 0, none⟩) ∧ f 4 = .pointer (some ⟨q8, 0, none⟩) ∧ f 5 = .pointer (some ⟨b5, 0, none⟩) ∧ f 6 = .pointer (some ⟨b6, 0, none⟩) ∧ f 7 = .pointer (some ⟨b7, 0, none⟩) ∧ f 8 = .int .i64 0 ∧ f 9 = .bool isB ∧ f 26 = .int .i64 (chn t x.1).room ∧ f 27 = .int .i64 (k : Int) ∧ True) ⟨h1, h2, h3, h4, h5, h6, h7, rfl, rfl, h26, h27, trivial⟩ ?_
          rintro f ⟨h1, h2, h3, h4, h5, h6, h7, h8, h9, h26, h27, -⟩
          refine regionX rfl ?_
          refine sv (yMove h9) ?_
          refine sv (yNot rfl) ?_
          refine sv (yMove rfl) ?_
          refine ungn (v := .bool (!isB)) rfl rfl rfl (not_ne his) ?_
          refine ungn (v := .bool (!isB)) rfl rfl rfl (not_ne his) ?_
          refine ungn (v := .bool (!isB)) rfl rfl rfl (not_ne his) ?_
          refine ungn (v := .bool (!isB)) rfl rfl rfl (not_ne his) ?_
          refine ungn (v := .bool (!isB)) rfl rfl rfl (not_ne his) ?_
          refine ungn (v := undef) rfl rfl rfl (by simp [undef]) ?_
          refine ungn (v := undef) rfl rfl rfl (by simp [undef]) ?_
          refine ungn (v := undef) rfl rfl rfl (by simp [undef]) ?_
          refine ungn (v := .bool (!isB)) rfl rfl rfl (not_ne his) ?_
          refine sv (yPick (v := .bool (!isB)) (B := !isB) rfl (fun h => (congrArg Value.bool h).symm) (fun h => absurd h (by rw [his]; decide))) ?_
          refine nil ?_
          show Code.wpIn _ _ _ _ _ _ _
          refine condX rfl (fun c57 => ?_) (fun c57 => ?_)
          ·
            refine seqX ?_
            refine cutX (fun f => f 1 = .pointer (some ⟨q3, 0, none⟩) ∧ f 2 = .pointer (some ⟨q7, 0, none⟩) ∧ f 3 = .pointer (some ⟨q5, 0, none⟩) ∧ f 4 = .pointer (some ⟨q8, 0, none⟩) ∧ f 5 = .pointer (some ⟨b5, 0, none⟩) ∧ f 6 = .pointer (some ⟨b6, 0, none⟩) ∧ f 7 = .pointer (some ⟨b7, 0, none⟩) ∧ True) ⟨h1, h2, h3, h4, h5, h6, h7, trivial⟩ ?_
            rintro f ⟨h1, h2, h3, h4, h5, h6, h7, -⟩
            refine region_anyX (C := (fun w => StX [] w0 w [blk b7 [.int .i64 x.1, .int .i64 x.2, .int .i64 (k : Int)] 115, blk b6 [.bool false] 4, blk b5 [.int .i64 i] 3, blk q8 [.func (.func 102) #[] ([.pointer (some ⟨q3, 0, none⟩), .pointer (some ⟨q7, 0, none⟩), .pointer (some ⟨q5, 0, none⟩), .pointer (some ⟨q8, 0, none⟩)] : List Value).toArray] 130, blk q7 [.map (some mr)] 176, blk q5 [.map (some mf)] 109, blk q3 [.pointer (some ⟨bp, 0, none⟩)] 103, blk bp [.pointer (some ⟨bb, 0, none⟩), .int .i64 now, .slice aw (wetL t).length cw, .map (some mt), .map (some ms)] 108])) mixed 12 18 (by kernel_rfl) rfl hS (fun _ h => h.sub (.cons_cons _ (.cons_cons _ (.cons_cons _ (.cons_cons _ (.cons_cons _ (.cons_cons _ (.cons_cons _ (.cons_cons _ (List.nil_sublist _)))))))))) ?_
            clear hS; intro w hS
            refine hv (fun w hS => (yLdB h1 Tryz.isAgg103 (hS.at _) rfl)) ?_
            refine hv (fun w hS => (yNil rfl)) ?_
            refine hv (fun w hS => (fa108_3 rfl)) ?_
            refine hv (fun w hS => (yLdB rfl Tryz.isAgg105 (hS.at _) rfl)) ?_
            refine hv (fun w hS => (yLdBA h7 Tryz.isAgg115 Tryz.sizeOf115 (hS.at _) rfl rfl)) ?_
            refine hv (fun w hS => (yLdB h1 Tryz.isAgg103 (hS.at _) rfl)) ?_
            refine hv (fun w hS => (yNil rfl)) ?_
            refine hv (fun w hS => (fa108_4 rfl)) ?_
            refine hv (fun w hS => (yLdB rfl Tryz.isAgg106 (hS.at _) rfl)) ?_
            refine hv (fun w hS => (yLdB h5 Tryz.isAgg3 (hS.at _) rfl)) ?_
            refine hv (fun w hS => (yLdB h5 Tryz.isAgg3 (hS.at _) rfl)) ?_
            refine hv (fun w hS => (yLdBA h7 Tryz.isAgg115 Tryz.sizeOf115 (hS.at _) rfl rfl)) ?_
            refine hnil ?_
            show wpA _ _ _ _ _ _ _ _ _ _
            refine a_step (i := 12) (is := []) (by kernel_rfl) ⟨?_, trivial⟩
            refine ⟨_, rfl, ?_⟩
            refine sentryF (enc := encSt) (dec := Value.int .i64) (z0 := 0) (k := ((x.1, x.2, (k : Int)) : Seat)) hS rfl rfl Tryz.runUnderlying105 keyS Tryz.zeroValue3 ?_; clear hS; intro v70 st70 w hS
            refine nil ?_
            refine ⟨fun _ => hS.sub (.cons_cons _ (.cons_cons _ (.cons_cons _ (.cons_cons _ (.cons_cons _ (.cons_cons _ (.cons_cons _ (.cons_cons _ (List.nil_sublist _))))))))), ?_⟩
            show wpA _ _ _ _ _ _ _ _ _ _
            refine a_step (i := 13) (is := []) (by kernel_rfl) ⟨?_, trivial⟩
            refine ⟨_, rfl, ?_⟩
            refine sv (yExt rfl rfl) ?_
            refine nil ?_
            refine ⟨fun _ => hS.sub (.cons_cons _ (.cons_cons _ (.cons_cons _ (.cons_cons _ (.cons_cons _ (.cons_cons _ (.cons_cons _ (.cons_cons _ (List.nil_sublist _))))))))), ?_⟩
            show wpA _ _ _ _ _ _ _ _ _ _
            refine a_step (i := 14) (is := []) (by kernel_rfl) ⟨?_, trivial⟩
            refine ⟨_, rfl, ?_⟩
            refine sestF (enc := encSt) (dec := Value.int .i64) (k := ((x.1, x.2, (k : Int)) : Seat)) (u := i) hS rfl rfl rfl ?_; clear hS; intro w hS
            refine nil ?_
            refine ⟨fun _ => hS.sub (.cons_cons _ (.cons_cons _ (.cons_cons _ (.cons_cons _ (.cons_cons _ (.cons_cons _ (.cons_cons _ (.cons_cons _ (List.nil_sublist _))))))))), ?_⟩
            show wpA _ _ _ _ _ _ _ _ _ _
            refine a_step (i := 15) (is := []) (by kernel_rfl) ⟨?_, trivial⟩
            refine ⟨_, rfl, ?_⟩
            refine sentryF (enc := Value.int .i64) (dec := encSt) (z0 := (0, 0, 0)) (k := i) hS rfl rfl Tryz.runUnderlying106 keyI3 Tryz.zeroValue115 ?_; clear hS; intro v72 st72 w hS
            refine nil ?_
            refine ⟨fun _ => hS.sub (.cons_cons _ (.cons_cons _ (.cons_cons _ (.cons_cons _ (.cons_cons _ (.cons_cons _ (.cons_cons _ (.cons_cons _ (List.nil_sublist _))))))))), ?_⟩
            show wpA _ _ _ _ _ _ _ _ _ _
            refine a_step (i := 16) (is := []) (by kernel_rfl) ⟨?_, trivial⟩
            refine ⟨_, rfl, ?_⟩
            refine sv (yExt rfl rfl) ?_
            refine nil ?_
            refine ⟨fun _ => hS.sub (.cons_cons _ (.cons_cons _ (.cons_cons _ (.cons_cons _ (.cons_cons _ (.cons_cons _ (.cons_cons _ (.cons_cons _ (List.nil_sublist _))))))))), ?_⟩
            show wpA _ _ _ _ _ _ _ _ _ _
            refine a_step (i := 17) (is := []) (by kernel_rfl) ⟨?_, trivial⟩
            refine ⟨_, rfl, ?_⟩
            refine sestF (enc := Value.int .i64) (dec := encSt) (k := i) (u := ((x.1, x.2, (k : Int)) : Seat)) hS rfl rfl rfl ?_; clear hS; intro w hS
            refine nil ?_
            refine ⟨fun _ => hS.sub (.cons_cons _ (.cons_cons _ (.cons_cons _ (.cons_cons _ (.cons_cons _ (.cons_cons _ (.cons_cons _ (.cons_cons _ (List.nil_sublist _))))))))), ?_⟩
            show wpA _ _ _ _ _ _ _ _ _ _
            refine a_end (by kernel_rfl) ?_
            show Code.wpIn _ _ _ _ _ _ _
            refine seqX ?_
            refine regionX rfl ?_
            refine sst hS h6 rfl Tryz.sizeOf4 rfl rfl rfl rfl ?_; clear hS; intro w hS
            refine nil ?_
            show Code.wpIn _ _ _ _ _ _ _
            refine wpIn_ret (blockR (thenR (thenR (blockR (blockR ?_)))))
            exact ⟨_, .inr ⟨rfl, (st.mark ((x.1, x.2, (k : Int)) : Seat)).put ((x.1, x.2, (k : Int)) : Seat) i, rfl, by rw [hI, nums_drop hkr, List.cons_append, goF_free htr ht]⟩, hS.sub (.cons _ (List.Sublist.refl _))⟩
          ·
            exact absurd c57 (by rw [his]; decide)
        ·
          obtain ⟨isB, his⟩ : ∃ b : Bool, b = true := ⟨_, rfl⟩
          refine cutX (fun f => f 1 = .pointer (some ⟨q3, 0, none⟩) ∧ f 2 = .pointer (some ⟨q7, 0, none⟩) ∧ f 3 = .pointer (some ⟨q5, 0, none⟩) ∧ f 4 = .pointer (some ⟨q8, 0, none⟩) ∧ f 5 = .pointer (some ⟨b5, 0, none⟩) ∧ f 6 = .pointer (some ⟨b6, 0, none⟩) ∧ f 7 = .pointer (some ⟨b7, 0, none⟩) ∧ f 26 = .int .i64 (chn t x.1).room ∧ f 27 = .int .i64 (k : Int) ∧ True) ⟨h1, h2, h3, h4, h5, h6, h7, h26, h27, trivial⟩ ?_
          rintro f ⟨h1, h2, h3, h4, h5, h6, h7, h26, h27, -⟩
          refine region_drawX mixed (by kernel_rfl) rfl hS ?_
          refine qv (fun w hS => (yLdB h1 Tryz.isAgg103 (hS.at _) rfl)) ?_
          refine qv (fun w hS => (yNil rfl)) ?_
          refine qv (fun w hS => (fa108_3 rfl)) ?_
          refine qv (fun w hS => (yLdB rfl Tryz.isAgg105 (hS.at _) rfl)) ?_
          refine qv (fun w hS => (yLdBA h7 Tryz.isAgg115 Tryz.sizeOf115 (hS.at _) rfl rfl)) ?_
          refine qv (fun w hS => (yLookFOk' (dec := Value.int .i64) (k := ((x.1, x.2, (k : Int)) : Seat)) (show (st.mark ((x.1, x.2, (k : Int)) : Seat)).taken ((x.1, x.2, (k : Int)) : Seat) = some o from ht) (show _ = Value.int .i64 o from rfl) his rfl rfl Tryz.runUnderlying105 keyS Tryz.zeroValue3 (hS.is _))) ?_
          refine qv (fun w hS => (yMove rfl)) ?_
          refine qv (fun w hS => (yExt rfl rfl)) ?_
          refine qv (fun w hS => (yExt rfl rfl)) ?_
          refine qv (fun w hS => (yAsg rfl)) ?_
          refine qv (fun w hS => (yAsg rfl)) ?_
          clear hS; refine qnil (fun w hS => ?_)
          show Code.wpIn _ _ _ _ _ _ _
          refine seqX ?_
          refine cutX (fun f => f 1 = .pointer (some ⟨q3, 0, none⟩) ∧ f 2 = .pointer (some ⟨q7, 0, none⟩) ∧ f 3 = .pointer (some ⟨q5, 0, none⟩) ∧ f 4 = .pointer (some ⟨q8, 0, none⟩) ∧ f 5 = .pointer (some ⟨b5, 0, none⟩) ∧ f 6 = .pointer (some ⟨b6, 0, none⟩) ∧ f 7 = .pointer (some ⟨b7, 0, none⟩) ∧ f 8 = .int .i64 o ∧ f 9 = .bool isB ∧ f 26 = .int .i64 (chn t x.1).room ∧ f 27 = .int .i64 (k : Int) ∧ True) ⟨h1, h2, h3, h4, h5, h6, h7, rfl, rfl, h26, h27, trivial⟩ ?_
          rintro f ⟨h1, h2, h3, h4, h5, h6, h7, h8, h9, h26, h27, -⟩
          refine regionX rfl ?_
          refine sv (yMove h9) ?_
          refine sv (yNot rfl) ?_
          refine sv (yMove rfl) ?_
          refine ungo rfl rfl (not_is his rfl) ?_
          refine sv (yLdB h3 Tryz.isAgg109 (hS.at _) rfl) ?_
          refine ungo rfl rfl (not_is his rfl) ?_
          refine sv (yMove h8) ?_
          refine ungo rfl rfl (not_is his rfl) ?_
          refine sv (yLookF (F := trF fx) (dec := Value.bool) (z := .bool false) (k := o) rfl rfl Tryz.runUnderlying109 keyI3 Tryz.zeroValue4 (hS.is _) (tr_look _ _)) ?_
          refine ungo rfl rfl (not_is his rfl) ?_
          refine sv (yNot rfl) ?_
          refine ungo rfl rfl (not_is his rfl) ?_
          refine sv (yMove rfl) ?_
          refine ungo rfl rfl (not_is hf rfl) ?_
          refine sv (yLdB h4 Tryz.isAgg130 (hS.at _) rfl) ?_
          refine ungo rfl rfl (not_is hf rfl) ?_
          refine sv (yMove h8) ?_
          refine ungo rfl rfl (not_is hf rfl) ?_
          refine scallf rfl Tryz.call102 (.cons rfl .nil) (hrec o (st.mark ((x.1, x.2, (k : Int)) : Seat)) w _ (by omega) hvl (hvl _ o ht) (StX.fr (A := [blk b7 [.int .i64 x.1, .int .i64 x.2, .int .i64 (k : Int)] 115, blk b6 [.bool false] 4, blk b5 [.int .i64 i] 3]) (B := [blk q8 [.func (.func 102) #[] ([.pointer (some ⟨q3, 0, none⟩), .pointer (some ⟨q7, 0, none⟩), .pointer (some ⟨q5, 0, none⟩), .pointer (some ⟨q8, 0, none⟩)] : List Value).toArray] 130, blk q7 [.map (some mr)] 176, blk q5 [.map (some mf)] 109, blk q3 [.pointer (some ⟨bp, 0, none⟩)] 103, blk bp [.pointer (some ⟨bb, 0, none⟩), .int .i64 now, .slice aw (wetL t).length cw, .map (some mt), .map (some ms)] 108, mapF mt encSt (Value.int .i64) ((st.mark ((x.1, x.2, (k : Int)) : Seat)).taken), mapF ms (Value.int .i64) encSt ((st.mark ((x.1, x.2, (k : Int)) : Seat)).seats), mapF mf (Value.int .i64) Value.bool (trF (fx)), mapF mr encSt Value.bool (trF ((st.mark ((x.1, x.2, (k : Int)) : Seat)).tried))]) hS)) ?_
          rintro _ w ⟨rfl, hM⟩; clear hS
          replace hS : StX [] w0 w (blk b7 [.int .i64 x.1, .int .i64 x.2, .int .i64 (k : Int)] 115 :: blk b6 [.bool false] 4 :: blk b5 [.int .i64 i] 3 :: blk q8 [.func (.func 102) #[] ([.pointer (some ⟨q3, 0, none⟩), .pointer (some ⟨q7, 0, none⟩), .pointer (some ⟨q5, 0, none⟩), .pointer (some ⟨q8, 0, none⟩)] : List Value).toArray] 130 :: blk q7 [.map (some mr)] 176 :: blk q5 [.map (some mf)] 109 :: blk q3 [.pointer (some ⟨bp, 0, none⟩)] 103 :: blk bp [.pointer (some ⟨bb, 0, none⟩), .int .i64 now, .slice aw (wetL t).length cw, .map (some mt), .map (some ms)] 108 :: mapF mt encSt (Value.int .i64) ((moveF fx (plT t now).sl n o (st.mark ((x.1, x.2, (k : Int)) : Seat))).2.taken) :: mapF ms (Value.int .i64) encSt ((moveF fx (plT t now).sl n o (st.mark ((x.1, x.2, (k : Int)) : Seat))).2.seats) :: mapF mf (Value.int .i64) Value.bool (trF (fx)) :: mapF mr encSt Value.bool (trF ((moveF fx (plT t now).sl n o (st.mark ((x.1, x.2, (k : Int)) : Seat))).2.tried)) :: (L9 ++ M)) := StX.fr (A := [blk q8 [.func (.func 102) #[] ([.pointer (some ⟨q3, 0, none⟩), .pointer (some ⟨q7, 0, none⟩), .pointer (some ⟨q5, 0, none⟩), .pointer (some ⟨q8, 0, none⟩)] : List Value).toArray] 130, blk q7 [.map (some mr)] 176, blk q5 [.map (some mf)] 109, blk q3 [.pointer (some ⟨bp, 0, none⟩)] 103, blk bp [.pointer (some ⟨bb, 0, none⟩), .int .i64 now, .slice aw (wetL t).length cw, .map (some mt), .map (some ms)] 108, mapF mt encSt (Value.int .i64) ((moveF fx (plT t now).sl n o (st.mark ((x.1, x.2, (k : Int)) : Seat))).2.taken), mapF ms (Value.int .i64) encSt ((moveF fx (plT t now).sl n o (st.mark ((x.1, x.2, (k : Int)) : Seat))).2.seats), mapF mf (Value.int .i64) Value.bool (trF (fx)), mapF mr encSt Value.bool (trF ((moveF fx (plT t now).sl n o (st.mark ((x.1, x.2, (k : Int)) : Seat))).2.tried))]) (B := [blk b7 [.int .i64 x.1, .int .i64 x.2, .int .i64 (k : Int)] 115, blk b6 [.bool false] 4, blk b5 [.int .i64 i] 3]) hM
          clear hM
          refine ungo rfl rfl (not_is his rfl) ?_
          refine sv (yPick (v := .bool (moveF fx (plT t now).sl n o (st.mark ((x.1, x.2, (k : Int)) : Seat))).1) (B := !(fx o)) rfl (fun _ => rfl) (fun h => absurd h (by rw [hf]; decide))) ?_
          refine sv (yPick (v := .bool (moveF fx (plT t now).sl n o (st.mark ((x.1, x.2, (k : Int)) : Seat))).1) (B := !isB) rfl (fun h => absurd h (by rw [his]; decide)) (fun _ => rfl)) ?_
          refine nil ?_
          show Code.wpIn _ _ _ _ _ _ _
          refine condX rfl (fun c57 => ?_) (fun c57 => ?_)
          ·
            refine seqX ?_
            refine cutX (fun f => f 1 = .pointer (some ⟨q3, 0, none⟩) ∧ f 2 = .pointer (some ⟨q7, 0, none⟩) ∧ f 3 = .pointer (some ⟨q5, 0, none⟩) ∧ f 4 = .pointer (some ⟨q8, 0, none⟩) ∧ f 5 = .pointer (some ⟨b5, 0, none⟩) ∧ f 6 = .pointer (some ⟨b6, 0, none⟩) ∧ f 7 = .pointer (some ⟨b7, 0, none⟩) ∧ True) ⟨h1, h2, h3, h4, h5, h6, h7, trivial⟩ ?_
            rintro f ⟨h1, h2, h3, h4, h5, h6, h7, -⟩
            refine region_anyX (C := (fun w => StX [] w0 w [blk b7 [.int .i64 x.1, .int .i64 x.2, .int .i64 (k : Int)] 115, blk b6 [.bool false] 4, blk b5 [.int .i64 i] 3, blk q8 [.func (.func 102) #[] ([.pointer (some ⟨q3, 0, none⟩), .pointer (some ⟨q7, 0, none⟩), .pointer (some ⟨q5, 0, none⟩), .pointer (some ⟨q8, 0, none⟩)] : List Value).toArray] 130, blk q7 [.map (some mr)] 176, blk q5 [.map (some mf)] 109, blk q3 [.pointer (some ⟨bp, 0, none⟩)] 103, blk bp [.pointer (some ⟨bb, 0, none⟩), .int .i64 now, .slice aw (wetL t).length cw, .map (some mt), .map (some ms)] 108])) mixed 12 18 (by kernel_rfl) rfl hS (fun _ h => h.sub (.cons_cons _ (.cons_cons _ (.cons_cons _ (.cons_cons _ (.cons_cons _ (.cons_cons _ (.cons_cons _ (.cons_cons _ (List.nil_sublist _)))))))))) ?_
            clear hS; intro w hS
            refine hv (fun w hS => (yLdB h1 Tryz.isAgg103 (hS.at _) rfl)) ?_
            refine hv (fun w hS => (yNil rfl)) ?_
            refine hv (fun w hS => (fa108_3 rfl)) ?_
            refine hv (fun w hS => (yLdB rfl Tryz.isAgg105 (hS.at _) rfl)) ?_
            refine hv (fun w hS => (yLdBA h7 Tryz.isAgg115 Tryz.sizeOf115 (hS.at _) rfl rfl)) ?_
            refine hv (fun w hS => (yLdB h1 Tryz.isAgg103 (hS.at _) rfl)) ?_
            refine hv (fun w hS => (yNil rfl)) ?_
            refine hv (fun w hS => (fa108_4 rfl)) ?_
            refine hv (fun w hS => (yLdB rfl Tryz.isAgg106 (hS.at _) rfl)) ?_
            refine hv (fun w hS => (yLdB h5 Tryz.isAgg3 (hS.at _) rfl)) ?_
            refine hv (fun w hS => (yLdB h5 Tryz.isAgg3 (hS.at _) rfl)) ?_
            refine hv (fun w hS => (yLdBA h7 Tryz.isAgg115 Tryz.sizeOf115 (hS.at _) rfl rfl)) ?_
            refine hnil ?_
            show wpA _ _ _ _ _ _ _ _ _ _
            refine a_step (i := 12) (is := []) (by kernel_rfl) ⟨?_, trivial⟩
            refine ⟨_, rfl, ?_⟩
            refine sentryF (enc := encSt) (dec := Value.int .i64) (z0 := 0) (k := ((x.1, x.2, (k : Int)) : Seat)) hS rfl rfl Tryz.runUnderlying105 keyS Tryz.zeroValue3 ?_; clear hS; intro v70 st70 w hS
            refine nil ?_
            refine ⟨fun _ => hS.sub (.cons_cons _ (.cons_cons _ (.cons_cons _ (.cons_cons _ (.cons_cons _ (.cons_cons _ (.cons_cons _ (.cons_cons _ (List.nil_sublist _))))))))), ?_⟩
            show wpA _ _ _ _ _ _ _ _ _ _
            refine a_step (i := 13) (is := []) (by kernel_rfl) ⟨?_, trivial⟩
            refine ⟨_, rfl, ?_⟩
            refine sv (yExt rfl rfl) ?_
            refine nil ?_
            refine ⟨fun _ => hS.sub (.cons_cons _ (.cons_cons _ (.cons_cons _ (.cons_cons _ (.cons_cons _ (.cons_cons _ (.cons_cons _ (.cons_cons _ (List.nil_sublist _))))))))), ?_⟩
            show wpA _ _ _ _ _ _ _ _ _ _
            refine a_step (i := 14) (is := []) (by kernel_rfl) ⟨?_, trivial⟩
            refine ⟨_, rfl, ?_⟩
            refine sestF (enc := encSt) (dec := Value.int .i64) (k := ((x.1, x.2, (k : Int)) : Seat)) (u := i) hS rfl rfl rfl ?_; clear hS; intro w hS
            refine nil ?_
            refine ⟨fun _ => hS.sub (.cons_cons _ (.cons_cons _ (.cons_cons _ (.cons_cons _ (.cons_cons _ (.cons_cons _ (.cons_cons _ (.cons_cons _ (List.nil_sublist _))))))))), ?_⟩
            show wpA _ _ _ _ _ _ _ _ _ _
            refine a_step (i := 15) (is := []) (by kernel_rfl) ⟨?_, trivial⟩
            refine ⟨_, rfl, ?_⟩
            refine sentryF (enc := Value.int .i64) (dec := encSt) (z0 := (0, 0, 0)) (k := i) hS rfl rfl Tryz.runUnderlying106 keyI3 Tryz.zeroValue115 ?_; clear hS; intro v72 st72 w hS
            refine nil ?_
            refine ⟨fun _ => hS.sub (.cons_cons _ (.cons_cons _ (.cons_cons _ (.cons_cons _ (.cons_cons _ (.cons_cons _ (.cons_cons _ (.cons_cons _ (List.nil_sublist _))))))))), ?_⟩
            show wpA _ _ _ _ _ _ _ _ _ _
            refine a_step (i := 16) (is := []) (by kernel_rfl) ⟨?_, trivial⟩
            refine ⟨_, rfl, ?_⟩
            refine sv (yExt rfl rfl) ?_
            refine nil ?_
            refine ⟨fun _ => hS.sub (.cons_cons _ (.cons_cons _ (.cons_cons _ (.cons_cons _ (.cons_cons _ (.cons_cons _ (.cons_cons _ (.cons_cons _ (List.nil_sublist _))))))))), ?_⟩
            show wpA _ _ _ _ _ _ _ _ _ _
            refine a_step (i := 17) (is := []) (by kernel_rfl) ⟨?_, trivial⟩
            refine ⟨_, rfl, ?_⟩
            refine sestF (enc := Value.int .i64) (dec := encSt) (k := i) (u := ((x.1, x.2, (k : Int)) : Seat)) hS rfl rfl rfl ?_; clear hS; intro w hS
            refine nil ?_
            refine ⟨fun _ => hS.sub (.cons_cons _ (.cons_cons _ (.cons_cons _ (.cons_cons _ (.cons_cons _ (.cons_cons _ (.cons_cons _ (.cons_cons _ (List.nil_sublist _))))))))), ?_⟩
            show wpA _ _ _ _ _ _ _ _ _ _
            refine a_end (by kernel_rfl) ?_
            show Code.wpIn _ _ _ _ _ _ _
            refine seqX ?_
            refine regionX rfl ?_
            refine sst hS h6 rfl Tryz.sizeOf4 rfl rfl rfl rfl ?_; clear hS; intro w hS
            refine nil ?_
            show Code.wpIn _ _ _ _ _ _ _
            refine wpIn_ret (blockR (thenR (thenR (blockR (blockR ?_)))))
            exact ⟨_, .inr ⟨rfl, (moveF fx (plT t now).sl n o (st.mark ((x.1, x.2, (k : Int)) : Seat))).2.put ((x.1, x.2, (k : Int)) : Seat) i, rfl, by rw [hI, nums_drop hkr, List.cons_append, goF_yes htr ht hf c57]⟩, hS.sub (.cons _ (List.Sublist.refl _))⟩
          ·
            refine skipX ?_
            show Code.wpIn _ _ _ _ _ _ _
            refine cutX (fun f => f 1 = .pointer (some ⟨q3, 0, none⟩) ∧ f 2 = .pointer (some ⟨q7, 0, none⟩) ∧ f 3 = .pointer (some ⟨q5, 0, none⟩) ∧ f 4 = .pointer (some ⟨q8, 0, none⟩) ∧ f 5 = .pointer (some ⟨b5, 0, none⟩) ∧ f 6 = .pointer (some ⟨b6, 0, none⟩) ∧ f 7 = .pointer (some ⟨b7, 0, none⟩) ∧ f 26 = .int .i64 (chn t x.1).room ∧ f 27 = .int .i64 (k : Int) ∧ True) ⟨h1, h2, h3, h4, h5, h6, h7, h26, h27, trivial⟩ ?_
            rintro f ⟨h1, h2, h3, h4, h5, h6, h7, h26, h27, -⟩
            refine regionX rfl ?_
            refine sv (yAdd h27 rfl ⟨by omega, by omega⟩) ?_
            refine sv (yMove rfl) ?_
            refine nil ?_
            exact ⟨_, _, rfl, ⟨k + 1, (k : Int), (moveF fx (plT t now).sl n o (st.mark ((x.1, x.2, (k : Int)) : Seat))).2, h1, h2, h3, h4, h5, h6, h7, h26, rfl, hS, (by omega), (moveF_vld n o _ (hvl _ o ht) hvl), (Nat.lt_of_le_of_lt (cntU_mono (Mono.trans (mono_mark st _) (moveF_mono n o _))) hcn), (by rw [hI, nums_drop hkr, List.cons_append, goF_no htr ht hf c57]), rfl⟩, by omega⟩
        ·
          obtain ⟨isB, his⟩ : ∃ b : Bool, b = true := ⟨_, rfl⟩
          refine cutX (fun f => f 1 = .pointer (some ⟨q3, 0, none⟩) ∧ f 2 = .pointer (some ⟨q7, 0, none⟩) ∧ f 3 = .pointer (some ⟨q5, 0, none⟩) ∧ f 4 = .pointer (some ⟨q8, 0, none⟩) ∧ f 5 = .pointer (some ⟨b5, 0, none⟩) ∧ f 6 = .pointer (some ⟨b6, 0, none⟩) ∧ f 7 = .pointer (some ⟨b7, 0, none⟩) ∧ f 26 = .int .i64 (chn t x.1).room ∧ f 27 = .int .i64 (k : Int) ∧ True) ⟨h1, h2, h3, h4, h5, h6, h7, h26, h27, trivial⟩ ?_
          rintro f ⟨h1, h2, h3, h4, h5, h6, h7, h26, h27, -⟩
          refine region_drawX mixed (by kernel_rfl) rfl hS ?_
          refine qv (fun w hS => (yLdB h1 Tryz.isAgg103 (hS.at _) rfl)) ?_
          refine qv (fun w hS => (yNil rfl)) ?_
          refine qv (fun w hS => (fa108_3 rfl)) ?_
          refine qv (fun w hS => (yLdB rfl Tryz.isAgg105 (hS.at _) rfl)) ?_
          refine qv (fun w hS => (yLdBA h7 Tryz.isAgg115 Tryz.sizeOf115 (hS.at _) rfl rfl)) ?_
          refine qv (fun w hS => (yLookFOk' (dec := Value.int .i64) (k := ((x.1, x.2, (k : Int)) : Seat)) (show (st.mark ((x.1, x.2, (k : Int)) : Seat)).taken ((x.1, x.2, (k : Int)) : Seat) = some o from ht) (show _ = Value.int .i64 o from rfl) his rfl rfl Tryz.runUnderlying105 keyS Tryz.zeroValue3 (hS.is _))) ?_
          refine qv (fun w hS => (yMove rfl)) ?_
          refine qv (fun w hS => (yExt rfl rfl)) ?_
          refine qv (fun w hS => (yExt rfl rfl)) ?_
          refine qv (fun w hS => (yAsg rfl)) ?_
          refine qv (fun w hS => (yAsg rfl)) ?_
          clear hS; refine qnil (fun w hS => ?_)
          show Code.wpIn _ _ _ _ _ _ _
          refine seqX ?_
          refine cutX (fun f => f 1 = .pointer (some ⟨q3, 0, none⟩) ∧ f 2 = .pointer (some ⟨q7, 0, none⟩) ∧ f 3 = .pointer (some ⟨q5, 0, none⟩) ∧ f 4 = .pointer (some ⟨q8, 0, none⟩) ∧ f 5 = .pointer (some ⟨b5, 0, none⟩) ∧ f 6 = .pointer (some ⟨b6, 0, none⟩) ∧ f 7 = .pointer (some ⟨b7, 0, none⟩) ∧ f 8 = .int .i64 o ∧ f 9 = .bool isB ∧ f 26 = .int .i64 (chn t x.1).room ∧ f 27 = .int .i64 (k : Int) ∧ True) ⟨h1, h2, h3, h4, h5, h6, h7, rfl, rfl, h26, h27, trivial⟩ ?_
          rintro f ⟨h1, h2, h3, h4, h5, h6, h7, h8, h9, h26, h27, -⟩
          refine regionX rfl ?_
          refine sv (yMove h9) ?_
          refine sv (yNot rfl) ?_
          refine sv (yMove rfl) ?_
          refine ungo rfl rfl (not_is his rfl) ?_
          refine sv (yLdB h3 Tryz.isAgg109 (hS.at _) rfl) ?_
          refine ungo rfl rfl (not_is his rfl) ?_
          refine sv (yMove h8) ?_
          refine ungo rfl rfl (not_is his rfl) ?_
          refine sv (yLookF (F := trF fx) (dec := Value.bool) (z := .bool false) (k := o) rfl rfl Tryz.runUnderlying109 keyI3 Tryz.zeroValue4 (hS.is _) (tr_look _ _)) ?_
          refine ungo rfl rfl (not_is his rfl) ?_
          refine sv (yNot rfl) ?_
          refine ungo rfl rfl (not_is his rfl) ?_
          refine sv (yMove rfl) ?_
          refine ungn (v := .bool (!(fx o))) rfl rfl rfl (not_ne hf) ?_
          refine ungn (v := .bool (!(fx o))) rfl rfl rfl (not_ne hf) ?_
          refine ungn (v := .bool (!(fx o))) rfl rfl rfl (not_ne hf) ?_
          refine ungo rfl rfl (not_is his rfl) ?_
          refine sv (yPick (v := .bool false) (B := !(fx o)) rfl (fun h => absurd h (by rw [hf]; decide)) (fun _ => rfl)) ?_
          refine sv (yPick (v := .bool (!isB)) (B := !isB) rfl (fun h => (congrArg Value.bool h).symm) (fun h => (rfl).trans (congrArg Value.bool h).symm)) ?_
          refine nil ?_
          show Code.wpIn _ _ _ _ _ _ _
          refine condX rfl (fun c57 => ?_) (fun c57 => ?_)
          ·
            exact absurd c57 (by rw [his]; decide)
          ·
            refine skipX ?_
            show Code.wpIn _ _ _ _ _ _ _
            refine cutX (fun f => f 1 = .pointer (some ⟨q3, 0, none⟩) ∧ f 2 = .pointer (some ⟨q7, 0, none⟩) ∧ f 3 = .pointer (some ⟨q5, 0, none⟩) ∧ f 4 = .pointer (some ⟨q8, 0, none⟩) ∧ f 5 = .pointer (some ⟨b5, 0, none⟩) ∧ f 6 = .pointer (some ⟨b6, 0, none⟩) ∧ f 7 = .pointer (some ⟨b7, 0, none⟩) ∧ f 26 = .int .i64 (chn t x.1).room ∧ f 27 = .int .i64 (k : Int) ∧ True) ⟨h1, h2, h3, h4, h5, h6, h7, h26, h27, trivial⟩ ?_
            rintro f ⟨h1, h2, h3, h4, h5, h6, h7, h26, h27, -⟩
            refine regionX rfl ?_
            refine sv (yAdd h27 rfl ⟨by omega, by omega⟩) ?_
            refine sv (yMove rfl) ?_
            refine nil ?_
            exact ⟨_, _, rfl, ⟨k + 1, (k : Int), (st.mark ((x.1, x.2, (k : Int)) : Seat)), h1, h2, h3, h4, h5, h6, h7, h26, rfl, hS, (by omega), (hvl), (Nat.lt_of_le_of_lt (cntU_mono (mono_mark st _)) hcn), (by rw [hI, nums_drop hkr, List.cons_append, goF_fix htr ht hf]), rfl⟩, by omega⟩
    ·
      simp only [BS, ne_eq] at c28
      refine exitX ?_
      rw [nums_done c28, List.nil_append] at hI
      exact ⟨_, (.inl ⟨rfl, st, rfl, hvl, hcn, fun post2 hp2 => by
        have : post = post2 := List.append_cancel_left (show (pre ++ [x]) ++ post = (pre ++ [x]) ++ post2 from by rw [← hp2, ← hpost, List.append_assoc])
        rw [← this]; exact hI⟩), (hS.sub (.cons _ (List.Sublist.refl _)))⟩
  ·
    clear hS
    intro D w L hcb hS
    obtain ⟨-, st, rfl, hvl, hcn, hI⟩ := hcb.resolve_right (fun h => by cases h.1)
    have hfin : moveF fx (plT t now).sl (n + 1) i st0 = (false, st) := by rw [moveF_succ, hI [] (by rw [List.append_nil]), List.flatMap_nil, goF_nil]
    replace hS : StX [] w0 w (obj D (.deferred (some [])) :: blk b6 [.bool false] 4 :: blk b5 [.int .i64 i] 3 :: blk q8 [.func (.func 102) #[] ([.pointer (some ⟨q3, 0, none⟩), .pointer (some ⟨q7, 0, none⟩), .pointer (some ⟨q5, 0, none⟩), .pointer (some ⟨q8, 0, none⟩)] : List Value).toArray] 130 :: blk q7 [.map (some mr)] 176 :: blk q5 [.map (some mf)] 109 :: blk q3 [.pointer (some ⟨bp, 0, none⟩)] 103 :: blk bp [.pointer (some ⟨bb, 0, none⟩), .int .i64 now, .slice aw (wetL t).length cw, .map (some mt), .map (some ms)] 108 :: mapF mt encSt (Value.int .i64) (st.taken) :: mapF ms (Value.int .i64) encSt (st.seats) :: mapF mf (Value.int .i64) Value.bool (trF (fx)) :: mapF mr encSt Value.bool (trF (st.tried)) :: L9) := hS
    show Code.wpIn _ _ _ _ _ _ _
    refine seqX ?_
    refine regionX rfl ?_
    refine sst hS rfl rfl Tryz.sizeOf4 rfl rfl rfl rfl ?_; clear hS; intro w hS
    refine nil ?_
    show Code.wpIn _ _ _ _ _ _ _
    refine wpIn_ret ?_
    refine leafD hS (fun w hS => (resV1 rfl (rc1 rfl Tryz.isAgg4 (hS.at b6) rfl))) (fun w hS => ?_)
    rw [hfin]
    exact ⟨rfl, hS.sub (.cons _ (.cons _ (.cons _ (List.Sublist.refl _))))⟩
  ·
    intro D w L cc pre hcb hS
    obtain ⟨h, st, rfl, hI⟩ := hcb.resolve_left (fun h => by cases h.1)
    obtain rfl := Option.some.inj h
    have hfin : moveF fx (plT t now).sl (n + 1) i st0 = (true, st) := by rw [moveF_succ, hI]
    replace hS : StX [] w0 w (obj D (.deferred (some [])) :: blk b6 [.bool true] 4 :: blk b5 [.int .i64 i] 3 :: blk q8 [.func (.func 102) #[] ([.pointer (some ⟨q3, 0, none⟩), .pointer (some ⟨q7, 0, none⟩), .pointer (some ⟨q5, 0, none⟩), .pointer (some ⟨q8, 0, none⟩)] : List Value).toArray] 130 :: blk q7 [.map (some mr)] 176 :: blk q5 [.map (some mf)] 109 :: blk q3 [.pointer (some ⟨bp, 0, none⟩)] 103 :: blk bp [.pointer (some ⟨bb, 0, none⟩), .int .i64 now, .slice aw (wetL t).length cw, .map (some mt), .map (some ms)] 108 :: mapF mt encSt (Value.int .i64) (st.taken) :: mapF ms (Value.int .i64) encSt (st.seats) :: mapF mf (Value.int .i64) Value.bool (trF (fx)) :: mapF mr encSt Value.bool (trF (st.tried)) :: L9) := hS
    refine wpIn_ret (blockR (thenR ?_))
    refine leafD hS (fun w hS => (resV1 rfl (rc1 rfl Tryz.isAgg4 (hS.at b6) rfl))) (fun w hS => ?_)
    rw [hfin]
    exact ⟨rfl, hS.sub (.cons _ (.cons _ (.cons _ (List.Sublist.refl _))))⟩
end Go.Proofs.YtmoilbakmlekbaaGreatDoor

/- part Aw10 -/
namespace Go.Proofs.YtmoilbakmlekbaaGreatDoor
open Go Bx
theorem c_move {t : Task} {bp bb cw mt ms mf mr q3 q5 q7 q8 : Nat} {aw : Option Addr} {now : Int} {fx : Int → Bool} {w0 : World} (hB : RBoard w0 bb t) (hn : 0 ≤ now ∧ now ≤ 200000) :
    ∀ (n : Nat) (i : Int) (st : Mst) (w : World) (L9 : List Bx.Item), cntU (UU t now) st.tried < n → Vld t st.taken → 0 ≤ i ∧ i < t.towns.length → StX [] w0 w (blk q8 [.func (.func 102) #[] ([.pointer (some ⟨q3, 0, none⟩), .pointer (some ⟨q7, 0, none⟩), .pointer (some ⟨q5, 0, none⟩), .pointer (some ⟨q8, 0, none⟩)] : List Value).toArray] 130 :: blk q7 [.map (some mr)] 176 :: blk q5 [.map (some mf)] 109 :: blk q3 [.pointer (some ⟨bp, 0, none⟩)] 103 :: blk bp [.pointer (some ⟨bb, 0, none⟩), .int .i64 now, .slice aw (wetL t).length cw, .map (some mt), .map (some ms)] 108 :: mapF mt encSt (Value.int .i64) (st.taken) :: mapF ms (Value.int .i64) encSt (st.seats) :: mapF mf (Value.int .i64) Value.bool (trF (fx)) :: mapF mr encSt Value.bool (trF (st.tried)) :: L9) → CE Tryz.prog 102 #[.int .i64 i, .pointer (some ⟨q3, 0, none⟩), .pointer (some ⟨q7, 0, none⟩), .pointer (some ⟨q5, 0, none⟩), .pointer (some ⟨q8, 0, none⟩)] w (fun u w' => u = .bool (moveF fx (plT t now).sl n i st).1 ∧ StX [] w0 w' (blk q8 [.func (.func 102) #[] ([.pointer (some ⟨q3, 0, none⟩), .pointer (some ⟨q7, 0, none⟩), .pointer (some ⟨q5, 0, none⟩), .pointer (some ⟨q8, 0, none⟩)] : List Value).toArray] 130 :: blk q7 [.map (some mr)] 176 :: blk q5 [.map (some mf)] 109 :: blk q3 [.pointer (some ⟨bp, 0, none⟩)] 103 :: blk bp [.pointer (some ⟨bb, 0, none⟩), .int .i64 now, .slice aw (wetL t).length cw, .map (some mt), .map (some ms)] 108 :: mapF mt encSt (Value.int .i64) ((moveF fx (plT t now).sl n i st).2.taken) :: mapF ms (Value.int .i64) encSt ((moveF fx (plT t now).sl n i st).2.seats) :: mapF mf (Value.int .i64) Value.bool (trF (fx)) :: mapF mr encSt Value.bool (trF ((moveF fx (plT t now).sl n i st).2.tried)) :: L9))
  | 0, _, _, _, _, h, _, _, _ => absurd h (Nat.not_lt_zero _)
  | n + 1, i, st, w, L9, h, hvl, hi, hS => c_move1 hB hn (fun o st w L h1 h2 h3 h4 => c_move hB hn n o st w L h1 h2 h3 h4) h hvl hi hS
set_option maxHeartbeats 1000000 in
/-- (*barrage/alarm.plan).settle -/
theorem c_settle {t : Task} {bp bb cw mt ms mf : Nat} {aw : Option Addr} {now : Int} {w0 : World} (hB : RBoard w0 bb t) (hn : 0 ≤ now ∧ now ≤ 200000) {n : Nat} {i : Int} {fx : Int → Bool} {tk : Seat → Option Int} {st : Int → Option Seat} {w : World} {L9 : List Bx.Item} (hcn : (UU t now).length < n) (hvl : Vld t tk) (hi : 0 ≤ i ∧ i < t.towns.length) (hS : StX [] w0 w (blk bp [.pointer (some ⟨bb, 0, none⟩), .int .i64 now, .slice aw (wetL t).length cw, .map (some mt), .map (some ms)] 108 :: mapF mt encSt (Value.int .i64) (tk) :: mapF ms (Value.int .i64) encSt (st) :: mapF mf (Value.int .i64) Value.bool (trF (fx)) :: L9)) : CE Tryz.prog 49 #[.pointer (some ⟨bp, 0, none⟩), .int .i64 i, .map (some mf)] w (fun u w' => u = .bool ((plT t now).settle n fx i tk st).1 ∧ StX [] w0 w' (blk bp [.pointer (some ⟨bb, 0, none⟩), .int .i64 now, .slice aw (wetL t).length cw, .map (some mt), .map (some ms)] 108 :: mapF mt encSt (Value.int .i64) (((plT t now).settle n fx i tk st).2.taken) :: mapF ms (Value.int .i64) encSt (((plT t now).settle n fx i tk st).2.seats) :: mapF mf (Value.int .i64) Value.bool (trF (fx)) :: L9)) := by
  refine enter Tryz.func49 rfl Tryz.ntmps49 rfl ?_
  skip
  refine seq ?_
  refine region ?_
  refine sbox hS rfl rfl ?_; clear hS; intro b3 w hS
  refine sbox hS rfl rfl ?_; clear hS; intro b5 w hS
  refine sv (yAsg rfl) ?_
  refine nil ?_
  show Code.wp _ _ _ _ _
  refine seq ?_
  refine region ?_
  refine smkmapF encSt Value.bool hS ?_; clear hS; intro b9 w hS
  rw [tr_nil] at hS
  refine salloc hS Tryz.zeroValue176 rfl ?_; clear hS; intro b7 w hS
  refine sst hS rfl rfl Tryz.sizeOf176 rfl rfl rfl rfl ?_; clear hS; intro w hS
  refine nil ?_
  show Code.wp _ _ _ _ _
  refine seq ?_
  refine region ?_
  refine salloc hS Tryz.zeroValue130 rfl ?_; clear hS; intro b8 w hS
  refine nil ?_
  show Code.wp _ _ _ _ _
  refine seq ?_
  refine region ?_
  refine sv (yFn (.cons rfl (.cons rfl (.cons rfl (.cons rfl .nil))))) ?_
  refine sst hS rfl rfl Tryz.sizeOf130 rfl rfl rfl rfl ?_; clear hS; intro w hS
  refine nil ?_
  show Code.wp _ _ _ _ _
  refine seq ?_
  refine region ?_
  refine sv (yLdB rfl Tryz.isAgg130 (hS.at _) rfl) ?_
  refine sv (yMove rfl) ?_
  refine scallf rfl Tryz.call102 (.cons rfl .nil) (c_move hB hn n i ⟨fun _ => false, tk, st⟩ w _ (Nat.lt_of_le_of_lt (cntU_le _ _) hcn) hvl hi (StX.mv3 (B := [blk b5 [.map (some mf)] 109, blk b3 [.pointer (some ⟨bp, 0, none⟩)] 103, blk bp [.pointer (some ⟨bb, 0, none⟩), .int .i64 now, .slice aw (wetL t).length cw, .map (some mt), .map (some ms)] 108, mapF mt encSt (Value.int .i64) (tk), mapF ms (Value.int .i64) encSt (st), mapF mf (Value.int .i64) Value.bool (trF (fx))]) hS)) ?_
  rintro _ w ⟨rfl, hM⟩; replace hS := hM; clear hM
  refine sv (yAsg rfl) ?_
  refine nil ?_
  show Code.wp _ _ _ _ _
  refine wp_ret ?_
  refine retQ (res1 rfl rfl) ?_
  exact ⟨rfl, hS.sub (.cons _ (.cons _ (.cons _ (.cons _ (.cons_cons _ (.cons_cons _ (.cons_cons _ (.cons_cons _ (.cons _ (List.Sublist.refl _))))))))))⟩
end Go.Proofs.YtmoilbakmlekbaaGreatDoor

/- part Aw11 -/
namespace Go.Proofs.YtmoilbakmlekbaaGreatDoor
open Go Bx
set_option maxHeartbeats 1000000 in
/-- (*barrage/alarm.plan).free -/
theorem c_free {t : Task} {bp bb cw mt ms : Nat} {aw : Option Addr} {now i : Int} {w0 w : World} {tk : Seat → Option Int} {st : Int → Option Seat} {L9 : List Bx.Item} (hS : StX [] w0 w (blk bp [.pointer (some ⟨bb, 0, none⟩), .int .i64 now, .slice aw (wetL t).length cw, .map (some mt), .map (some ms)] 108 :: mapF mt encSt (Value.int .i64) (tk) :: mapF ms (Value.int .i64) encSt (st) :: L9)) : CE Tryz.prog 105 #[.pointer (some ⟨bp, 0, none⟩), .int .i64 i] w (fun u w' => u = .tuple #[] ∧ StX [] w0 w' (blk bp [.pointer (some ⟨bb, 0, none⟩), .int .i64 now, .slice aw (wetL t).length cw, .map (some mt), .map (some ms)] 108 :: mapF mt encSt (Value.int .i64) (fdel tk ((st i).getD (0, 0, 0))) :: mapF ms (Value.int .i64) encSt (fdel st i) :: L9)) := by
  refine enter Tryz.func105 rfl Tryz.ntmps105 rfl ?_
  skip
  refine seq ?_
  refine region_tail mixed 10 (by kernel_rfl) hS ?_
  refine qv (fun w hS => (yMove rfl)) ?_
  refine qv (fun w hS => (yNil rfl)) ?_
  refine qv (fun w hS => (fa108_3 rfl)) ?_
  refine qv (fun w hS => (yLdB rfl Tryz.isAgg105 (hS.at _) rfl)) ?_
  refine qv (fun w hS => (yMove rfl)) ?_
  refine qv (fun w hS => (yNil rfl)) ?_
  refine qv (fun w hS => (fa108_4 rfl)) ?_
  refine qv (fun w hS => (yLdB rfl Tryz.isAgg106 (hS.at _) rfl)) ?_
  refine qv (fun w hS => (yMove rfl)) ?_
  refine qv (fun w hS => (yLookF (F := st) (dec := encSt) (k := i) rfl rfl Tryz.runUnderlying106 keyI3 Tryz.zeroValue115 (hS.is _) (seat_val _))) ?_
  clear hS; refine qtl (fun w hS => ?_)
  refine sdelF (enc := encSt) (dec := Value.int .i64) (k := ((st i).getD (0, 0, 0))) hS rfl rfl Tryz.runUnderlying105 keyS ?_; clear hS; intro w hS
  refine nil ?_
  show Code.wp _ _ _ _ _
  refine region ?_
  refine sv (yMove rfl) ?_
  refine sv (yNil rfl) ?_
  refine sv (fa108_4 rfl) ?_
  refine sv (yLdB rfl Tryz.isAgg106 (hS.at _) rfl) ?_
  refine sv (yMove rfl) ?_
  refine sdelF (enc := Value.int .i64) (dec := encSt) (k := i) hS rfl rfl Tryz.runUnderlying106 keyI3 ?_; clear hS; intro w hS
  refine nil ?_
  show bodyPost _ _ _ .normal _ _
  refine retN (results_none rfl _ _ _) ?_
  exact ⟨rfl, hS⟩
set_option maxHeartbeats 4000000 in
/-- (*barrage/alarm.plan).try -/
theorem c_try {t : Task} {bp bb cw mt ms mf : Nat} {aw : Option Addr} {now : Int} {w0 : World} (hB : RBoard w0 bb t) (hn : 0 ≤ now ∧ now ≤ 200000) {n : Nat} {i : Int} {x : Int × Int} {p : Pst} {w : World} {L9 : List Bx.Item} (hcn : (UU t now).length < n) (hvl : Vld t p.taken) (hi : 0 ≤ i ∧ i < t.towns.length) (hc : 0 ≤ x.1 ∧ x.1 < t.chans.length) (hS : StX [] w0 w (blk bp [.pointer (some ⟨bb, 0, none⟩), .int .i64 now, .slice aw (wetL t).length cw, .map (some mt), .map (some ms)] 108 :: mapF mt encSt (Value.int .i64) (p.taken) :: mapF ms (Value.int .i64) encSt (p.seats) :: mapF mf (Value.int .i64) Value.bool (trF (p.fixed)) :: L9)) : CE Tryz.prog 51 #[.pointer (some ⟨bp, 0, none⟩), .int .i64 i, .agg [.int .i64 x.1, .int .i64 x.2, .int .i64 0].toArray, .map (some mf)] w (fun u w' => u = .bool ((plT t now).try n i p ((plT t now).nums x)).1 ∧ ∃ mt ms, StX [] w0 w' (blk bp [.pointer (some ⟨bb, 0, none⟩), .int .i64 now, .slice aw (wetL t).length cw, .map (some mt), .map (some ms)] 108 :: mapF mt encSt (Value.int .i64) (((plT t now).try n i p ((plT t now).nums x)).2.taken) :: mapF ms (Value.int .i64) encSt (((plT t now).try n i p ((plT t now).nums x)).2.seats) :: mapF mf (Value.int .i64) Value.bool (trF (((plT t now).try n i p ((plT t now).nums x)).2.fixed)) :: L9)) := by
  obtain ⟨a1, c1, a2, c2, a3, c3, a4, c4, a5, c5, T, hb, s1, s2, s3, s4, s5, hok⟩ := id hB.opn
  have hn8 := hok.ntw
  have hf8 := hok.nfl
  have hc4 := hok.nch
  obtain ⟨bc, oc, csc, hac, hlc, hcsc, hRc, -⟩ := sl_at s1 (chn_i (t := t) hc)
  obtain ⟨rfl, -⟩ := hRc
  have hco := chan_ok hok hc
  refine enter Tryz.func51 rfl Tryz.ntmps51 rfl ?_
  skip
  refine seq ?_
  refine region ?_
  refine sbox hS rfl rfl ?_; clear hS; intro b6 w hS
  refine sv (yAsg rfl) ?_
  refine nil ?_
  show Code.wp _ _ _ _ _
  refine seq ?_
  refine region ?_
  refine smkmapF encSt (Value.int .i64) hS ?_; clear hS; intro b17 w hS
  refine smkmapF (Value.int .i64) encSt hS ?_; clear hS; intro b18 w hS
  refine sv (yAsg rfl) ?_
  refine sv (yAsg rfl) ?_
  refine nil ?_
  show Code.wp _ _ _ _ _
  refine seq ?_
  refine seq ?_
  refine region ?_
  refine sv (yMove rfl) ?_
  refine sv (yNil rfl) ?_
  refine sv (fa108_3 rfl) ?_
  refine sv (yLdB rfl Tryz.isAgg105 (hS.at _) rfl) ?_
  obtain ⟨m, c, ho⟩ := hS.opn mt
  replace hS := hS.re (b := mt) (p := MapS encSt (Value.int .i64) p.taken m c) ho
  obtain ⟨hk1, hk2, hk3⟩ := hS.facts mt
  refine srangeF (enc := encSt) (dec := Value.int .i64) (b := mt) (m := m) (c := c) (F := p.taken) hS rfl Tryz.runUnderlying105 ?_; clear hS; intro b23 w hS
  refine nil ?_
  show Code.wp _ _ _ _ _
  refine block ?_
  refine loop (fun f w zz => ∃ (seen : List Nat) (G : Seat → Option Int), f 0 = .pointer (some ⟨bp, 0, none⟩) ∧ f 1 = .int .i64 i ∧ f 3 = .map (some mf) ∧ f 6 = .pointer (some ⟨b6, 0, none⟩) ∧ f 9 = .map (some b17) ∧ f 10 = .map (some b18) ∧ f 23 = .pointer (some ⟨b23, 0, none⟩) ∧ StX [] w0 w (obj b23 (.mapIter (some mt) c (seen).toArray c) :: mapF b18 (Value.int .i64) encSt (fun _ => none) :: mapF b17 encSt (Value.int .i64) (G) :: blk b6 [.int .i64 x.1, .int .i64 x.2, .int .i64 0] 115 :: blk bp [.pointer (some ⟨bb, 0, none⟩), .int .i64 now, .slice aw (wetL t).length cw, .map (some mt), .map (some ms)] 108 :: mapT mt encSt (Value.int .i64) p.taken m c :: mapF ms (Value.int .i64) encSt (p.seats) :: mapF mf (Value.int .i64) Value.bool (trF (p.fixed)) :: L9) ∧ (Cpy p.taken m seen G) ∧ zz = leftN m seen) _ ⟨_, rfl, [], _, rfl, rfl, rfl, rfl, rfl, rfl, rfl, hS, (Cpy.nil _ _), rfl⟩ ?_
  clear hS
  rintro f w _ ⟨seen, G, h0, h1, h3, h6, h9, h10, h23, hS, hG, rfl⟩
  refine seq ?_
  refine region ?_
  refine snextF (enc := encSt) (dec := Value.int .i64) (F := p.taken) (bi := b23) (b := mt) (m := m) (c := c) hS h23 ?_; clear hS; intro v w hov hon hS
  refine sv (yExt rfl (nxtO_ok v)) ?_
  refine nil ?_
  show Code.wp _ _ _ _ _
  refine seq ?_
  refine cond rfl (fun c25 => ?_) (fun c25 => ?_)
  ·
    obtain ⟨v, rfl⟩ := Option.isSome_iff_exists.1 c25
    obtain ⟨hvm, hvs⟩ := hov v rfl
    replace hS : StX [] w0 w (obj b23 (.mapIter (some mt) c (seen ++ [v.2.2]).toArray c) :: mapF b18 (Value.int .i64) encSt (fun _ => none) :: mapF b17 encSt (Value.int .i64) (G) :: blk b6 [.int .i64 x.1, .int .i64 x.2, .int .i64 0] 115 :: blk bp [.pointer (some ⟨bb, 0, none⟩), .int .i64 now, .slice aw (wetL t).length cw, .map (some mt), .map (some ms)] 108 :: mapT mt encSt (Value.int .i64) p.taken m c :: mapF ms (Value.int .i64) encSt (p.seats) :: mapF mf (Value.int .i64) Value.bool (trF (p.fixed)) :: L9) := hS
    refine skip ?_
    show Code.wp _ _ _ _ _
    refine block ?_
    refine seq ?_
    refine region ?_
    refine sv (yEntryR (enc := encSt) (dec := Value.int .i64) (F := p.taken) (m := m) (x := v) (seen := seen) h23 (hS.at b23) (hS.is mt) hvm) ?_
    refine sv (yExt rfl rfl) ?_
    refine sv (yExt rfl rfl) ?_
    refine salloc hS Tryz.zeroValue115 rfl ?_; clear hS; intro b11 w hS
    refine sst hS rfl rfl Tryz.sizeOf115 rfl rfl rfl rfl ?_; clear hS; intro w hS
    refine sv (yAsg rfl) ?_
    refine nil ?_
    show Code.wp _ _ _ _ _
    refine region ?_
    refine sv (yMove h9) ?_
    refine sv (yLdBA rfl Tryz.isAgg115 Tryz.sizeOf115 (hS.at _) rfl rfl) ?_
    refine sv (yMove rfl) ?_
    refine smapsetF (enc := encSt) (dec := Value.int .i64) (k := v.1) (u := v.2.1) hS rfl rfl rfl Tryz.runUnderlying105 keyS ?_; clear hS; intro w hS
    refine nil ?_
    exact ⟨_, _, rfl, ⟨seen ++ [v.2.2], _, h0, h1, h3, h6, h9, h10, h23, (hS.sub (.cons _ (List.Sublist.refl _))), (hG.step hk1 hk2 hk3 hvm), rfl⟩, leftN_less hvm hvs⟩
  ·
    obtain rfl : v = none := by cases v with | none => rfl | some _ => cases c25
    obtain rfl := hG.all hk1 hk3 (hon rfl)
    replace hS := (hS.sub (.cons _ (List.Sublist.refl _))).shut (enc := encSt) (dec := Value.int .i64) (F := p.taken) (m := m) (c := c) mt
    refine exit ?_
    show Code.wp _ _ _ _ _
    refine seq ?_
    refine seq ?_
    refine region ?_
    refine sv (yMove h0) ?_
    refine sv (yNil rfl) ?_
    refine sv (fa108_4 rfl) ?_
    refine sv (yLdB rfl Tryz.isAgg106 (hS.at _) rfl) ?_
    obtain ⟨m, c, ho⟩ := hS.opn ms
    replace hS := hS.re (b := ms) (p := MapS (Value.int .i64) encSt p.seats m c) ho
    obtain ⟨hk1, hk2, hk3⟩ := hS.facts ms
    refine srangeF (enc := Value.int .i64) (dec := encSt) (b := ms) (m := m) (c := c) (F := p.seats) hS rfl Tryz.runUnderlying106 ?_; clear hS; intro b36 w hS
    refine nil ?_
    show Code.wp _ _ _ _ _
    refine block ?_
    refine loop (fun f w zz => ∃ (seen : List Nat) (G : Int → Option Seat), f 0 = .pointer (some ⟨bp, 0, none⟩) ∧ f 1 = .int .i64 i ∧ f 3 = .map (some mf) ∧ f 6 = .pointer (some ⟨b6, 0, none⟩) ∧ f 9 = .map (some b17) ∧ f 10 = .map (some b18) ∧ f 36 = .pointer (some ⟨b36, 0, none⟩) ∧ StX [] w0 w (obj b36 (.mapIter (some ms) c (seen).toArray c) :: mapF b18 (Value.int .i64) encSt (G) :: mapF b17 encSt (Value.int .i64) (p.taken) :: blk b6 [.int .i64 x.1, .int .i64 x.2, .int .i64 0] 115 :: blk bp [.pointer (some ⟨bb, 0, none⟩), .int .i64 now, .slice aw (wetL t).length cw, .map (some mt), .map (some ms)] 108 :: mapF mt encSt (Value.int .i64) (p.taken) :: mapT ms (Value.int .i64) encSt p.seats m c :: mapF mf (Value.int .i64) Value.bool (trF (p.fixed)) :: L9) ∧ (Cpy p.seats m seen G) ∧ zz = leftN m seen) _ ⟨_, rfl, [], _, h0, h1, h3, h6, h9, h10, rfl, hS, (Cpy.nil _ _), rfl⟩ ?_
    clear hS
    rintro f w _ ⟨seen, G, h0, h1, h3, h6, h9, h10, h36, hS, hG, rfl⟩
    refine seq ?_
    refine region ?_
    refine snextF (enc := Value.int .i64) (dec := encSt) (F := p.seats) (bi := b36) (b := ms) (m := m) (c := c) hS h36 ?_; clear hS; intro v w hov hon hS
    refine sv (yExt rfl (nxtO_ok v)) ?_
    refine nil ?_
    show Code.wp _ _ _ _ _
    refine seq ?_
    refine cond rfl (fun c38 => ?_) (fun c38 => ?_)
    ·
      obtain ⟨v, rfl⟩ := Option.isSome_iff_exists.1 c38
      obtain ⟨hvm, hvs⟩ := hov v rfl
      replace hS : StX [] w0 w (obj b36 (.mapIter (some ms) c (seen ++ [v.2.2]).toArray c) :: mapF b18 (Value.int .i64) encSt (G) :: mapF b17 encSt (Value.int .i64) (p.taken) :: blk b6 [.int .i64 x.1, .int .i64 x.2, .int .i64 0] 115 :: blk bp [.pointer (some ⟨bb, 0, none⟩), .int .i64 now, .slice aw (wetL t).length cw, .map (some mt), .map (some ms)] 108 :: mapF mt encSt (Value.int .i64) (p.taken) :: mapT ms (Value.int .i64) encSt p.seats m c :: mapF mf (Value.int .i64) Value.bool (trF (p.fixed)) :: L9) := hS
      refine skip ?_
      show Code.wp _ _ _ _ _
      refine block ?_
      refine seq ?_
      refine region ?_
      refine sv (yEntryR (enc := Value.int .i64) (dec := encSt) (F := p.seats) (m := m) (x := v) (seen := seen) h36 (hS.at b36) (hS.is ms) hvm) ?_
      refine sv (yExt rfl rfl) ?_
      refine sv (yExt rfl rfl) ?_
      refine salloc hS Tryz.zeroValue115 rfl ?_; clear hS; intro b14 w hS
      refine sv (yAsg rfl) ?_
      refine sst hS rfl rfl Tryz.sizeOf115 rfl rfl rfl rfl ?_; clear hS; intro w hS
      refine nil ?_
      show Code.wp _ _ _ _ _
      refine region ?_
      refine sv (yMove h10) ?_
      refine sv (yMove rfl) ?_
      refine sv (yLdBA rfl Tryz.isAgg115 Tryz.sizeOf115 (hS.at _) rfl rfl) ?_
      refine smapsetF (enc := Value.int .i64) (dec := encSt) (k := v.1) (u := v.2.1) hS rfl rfl rfl Tryz.runUnderlying106 keyI3 ?_; clear hS; intro w hS
      refine nil ?_
      exact ⟨_, _, rfl, ⟨seen ++ [v.2.2], _, h0, h1, h3, h6, h9, h10, h36, (hS.sub (.cons _ (List.Sublist.refl _))), (hG.step hk1 hk2 hk3 hvm), rfl⟩, leftN_less hvm hvs⟩
    ·
      obtain rfl : v = none := by cases v with | none => rfl | some _ => cases c38
      obtain rfl := hG.all hk1 hk3 (hon rfl)
      replace hS := (hS.sub (.cons _ (List.Sublist.refl _))).shut (enc := Value.int .i64) (dec := encSt) (F := p.seats) (m := m) (c := c) ms
      refine exit ?_
      show Code.wp _ _ _ _ _
      refine seq ?_
      refine seq ?_
      refine region_draw mixed (by kernel_rfl) hS ?_
      refine qv (fun w hS => (yMove h0)) ?_
      refine qv (fun w hS => (yNil rfl)) ?_
      refine qv (fun w hS => (fa108_0 rfl)) ?_
      refine qv (fun w hS => (yLdB rfl Tryz.isAgg100 (hS.at _) rfl)) ?_
      refine qv (fun w hS => (yNil rfl)) ?_
      refine qv (fun w hS => (fa141_0 rfl)) ?_
      refine qv (fun w hS => (fa26_1 rfl)) ?_
      refine qv (fun w hS => (yLdB rfl Tryz.isAgg22 (hS.ext.get hb) rfl)) ?_
      refine qv (fun w hS => (fa115_0 h6)) ?_
      refine qv (fun w hS => (yLdB rfl Tryz.isAgg3 (hS.at _) rfl)) ?_
      refine qv (fun w hS => (yIxa rfl hac rfl Tryz.runUnderlying22 Tryz.sizeOf41 (by omega) (by omega))) ?_
      refine qv (fun w hS => (fa41_2 rfl)) ?_
      refine qv (fun w hS => (yLd rfl Tryz.isAgg3 ((hcsc.ext hS.ext).at (j := 2) rfl))) ?_
      refine qv (fun w hS => (yMove rfl)) ?_
      clear hS; refine qnil (fun w hS => ?_)
      show Code.wp _ _ _ _ _
      refine block ?_
      refine loop (fun f w zz => ∃ (k : Nat) (z : Int), f 0 = .pointer (some ⟨bp, 0, none⟩) ∧ f 1 = .int .i64 i ∧ f 3 = .map (some mf) ∧ f 6 = .pointer (some ⟨b6, 0, none⟩) ∧ f 9 = .map (some b17) ∧ f 10 = .map (some b18) ∧ f 57 = .int .i64 (chn t x.1).room ∧ f 58 = .int .i64 (k : Int) ∧ StX [] w0 w (mapF b18 (Value.int .i64) encSt (p.seats) :: mapF b17 encSt (Value.int .i64) (p.taken) :: blk b6 [.int .i64 x.1, .int .i64 x.2, .int .i64 z] 115 :: blk bp [.pointer (some ⟨bb, 0, none⟩), .int .i64 now, .slice aw (wetL t).length cw, .map (some mt), .map (some ms)] 108 :: mapF mt encSt (Value.int .i64) (p.taken) :: mapF ms (Value.int .i64) encSt (p.seats) :: mapF mf (Value.int .i64) Value.bool (trF (p.fixed)) :: L9) ∧ ((k : Int) ≤ (chn t x.1).room) ∧ ((plT t now).try n i p ((plT t now).nums x) = (plT t now).try n i p (((plT t now).nums x).drop k)) ∧ zz = (chn t x.1).room.toNat - k) _ ⟨_, rfl, 0, 0, h0, h1, h3, h6, h9, h10, rfl, rfl, hS, (by omega), (by rw [List.drop_zero]), rfl⟩ ?_
      clear hS
      rintro f w _ ⟨k, z, h0, h1, h3, h6, h9, h10, h57, h58, hS, hk, hI, rfl⟩
      refine seq ?_
      refine region ?_
      refine sv (yLss h58 h57) ?_
      refine nil ?_
      show Code.wp _ _ _ _ _
      refine seq ?_
      refine cond rfl (fun c59 => ?_) (fun c59 => ?_)
      ·
        simp only [BS, ne_eq] at c59
        have hkr : (k : Int) < (chn t x.1).room := c59
        refine skip ?_
        show Code.wp _ _ _ _ _
        refine seq ?_
        refine block ?_
        refine seq ?_
        refine region ?_
        refine sv (yMove h58) ?_
        refine sv (fa115_2 h6) ?_
        refine sst hS rfl rfl Tryz.sizeOf3 rfl rfl rfl rfl ?_; clear hS; intro w hS
        refine nil ?_
        show Code.wp _ _ _ _ _
        refine seq ?_
        refine cutK (fun f => f 0 = .pointer (some ⟨bp, 0, none⟩) ∧ f 1 = .int .i64 i ∧ f 3 = .map (some mf) ∧ f 6 = .pointer (some ⟨b6, 0, none⟩) ∧ f 9 = .map (some b17) ∧ f 10 = .map (some b18) ∧ f 57 = .int .i64 (chn t x.1).room ∧ f 58 = .int .i64 (k : Int) ∧ True) ⟨h0, h1, h3, h6, h9, h10, h57, h58, trivial⟩ ?_
        rintro f ⟨h0, h1, h3, h6, h9, h10, h57, h58, -⟩
        rcases look4 (p.taken ((x.1, x.2, (k : Int)) : Seat)) p.fixed i with ht | ⟨o, ht, hf⟩ | ⟨o, ht, hf, hoi⟩ | ⟨o, ht, hf, hoi⟩
        ·
          obtain ⟨isB, his⟩ : ∃ b : Bool, b = false := ⟨_, rfl⟩
          refine cutK (fun f => f 0 = .pointer (some ⟨bp, 0, none⟩) ∧ f 1 = .int .i64 i ∧ f 3 = .map (some mf) ∧ f 6 = .pointer (some ⟨b6, 0, none⟩) ∧ f 9 = .map (some b17) ∧ f 10 = .map (some b18) ∧ f 57 = .int .i64 (chn t x.1).room ∧ f 58 = .int .i64 (k : Int) ∧ True) ⟨h0, h1, h3, h6, h9, h10, h57, h58, trivial⟩ ?_
          rintro f ⟨h0, h1, h3, h6, h9, h10, h57, h58, -⟩
          refine region_draw mixed (by kernel_rfl) hS ?_
          refine qv (fun w hS => (yMove h0)) ?_
          refine qv (fun w hS => (yNil rfl)) ?_
          refine qv (fun w hS => (fa108_3 rfl)) ?_
          refine qv (fun w hS => (yLdB rfl Tryz.isAgg105 (hS.at _) rfl)) ?_
          refine qv (fun w hS => (yLdBA h6 Tryz.isAgg115 Tryz.sizeOf115 (hS.at _) rfl rfl)) ?_
          refine qv (fun w hS => (yLookFOk' (dec := Value.int .i64) (k := ((x.1, x.2, (k : Int)) : Seat)) ht (show _ = Value.int .i64 0 from rfl) his rfl rfl Tryz.runUnderlying105 keyS Tryz.zeroValue3 (hS.is _))) ?_
          refine qv (fun w hS => (yMove rfl)) ?_
          refine qv (fun w hS => (yExt rfl rfl)) ?_
          refine qv (fun w hS => (yExt rfl rfl)) ?_
          refine qv (fun w hS => (yAsg rfl)) ?_
          refine qv (fun w hS => (yAsg rfl)) ?_
          clear hS; refine qnil (fun w hS => ?_)
          show Code.wp _ _ _ _ _
          refine seq ?_
          refine seq ?_
          refine cutK (fun f => f 0 = .pointer (some ⟨bp, 0, none⟩) ∧ f 1 = .int .i64 i ∧ f 3 = .map (some mf) ∧ f 6 = .pointer (some ⟨b6, 0, none⟩) ∧ f 9 = .map (some b17) ∧ f 10 = .map (some b18) ∧ f 57 = .int .i64 (chn t x.1).room ∧ f 58 = .int .i64 (k : Int) ∧ f 15 = .int .i64 0 ∧ f 16 = .bool isB ∧ True) ⟨h0, h1, h3, h6, h9, h10, h57, h58, rfl, rfl, trivial⟩ ?_
          rintro f ⟨h0, h1, h3, h6, h9, h10, h57, h58, h15, h16, -⟩
          refine region ?_
          refine sv (yMove h16) ?_
          refine sv (yMove rfl) ?_
          refine ungn (v := .bool isB) rfl rfl rfl (by rw [his]; simp) ?_
          refine ungn (v := .bool isB) rfl rfl rfl (by rw [his]; simp) ?_
          refine ungn (v := .bool isB) rfl rfl rfl (by rw [his]; simp) ?_
          refine sv (yPick (v := .bool isB) (B := isB) rfl (fun h => absurd h (by rw [his]; decide)) (fun h => (congrArg Value.bool h).symm)) ?_
          refine nil ?_
          show Code.wp _ _ _ _ _
          refine cond rfl (fun c76 => ?_) (fun c76 => ?_)
          ·
            exact absurd c76 (by rw [his]; decide)
          ·
            refine skip ?_
            show Code.wp _ _ _ _ _
            refine seq ?_
            refine region ?_
            refine sv (yMove h0) ?_
            refine sv (yMove h1) ?_
            refine scall Tryz.call105 (.cons rfl (.cons rfl .nil)) (c_free (t := t) (StX.fr (A := [mapF b18 (Value.int .i64) encSt (p.seats), mapF b17 encSt (Value.int .i64) (p.taken), blk b6 [.int .i64 x.1, .int .i64 x.2, .int .i64 (k : Int)] 115]) (B := [blk bp [.pointer (some ⟨bb, 0, none⟩), .int .i64 now, .slice aw (wetL t).length cw, .map (some mt), .map (some ms)] 108, mapF mt encSt (Value.int .i64) (p.taken), mapF ms (Value.int .i64) encSt (p.seats)]) hS)) ?_
            rintro _ w ⟨rfl, hM⟩; clear hS
            replace hS : StX [] w0 w (mapF b18 (Value.int .i64) encSt (p.seats) :: mapF b17 encSt (Value.int .i64) (p.taken) :: blk b6 [.int .i64 x.1, .int .i64 x.2, .int .i64 (k : Int)] 115 :: blk bp [.pointer (some ⟨bb, 0, none⟩), .int .i64 now, .slice aw (wetL t).length cw, .map (some mt), .map (some ms)] 108 :: mapF mt encSt (Value.int .i64) ((p.free i).taken) :: mapF ms (Value.int .i64) encSt ((p.free i).seats) :: mapF mf (Value.int .i64) Value.bool (trF (p.fixed)) :: L9) := StX.fr (A := [blk bp [.pointer (some ⟨bb, 0, none⟩), .int .i64 now, .slice aw (wetL t).length cw, .map (some mt), .map (some ms)] 108, mapF mt encSt (Value.int .i64) ((p.free i).taken), mapF ms (Value.int .i64) encSt ((p.free i).seats)]) (B := [mapF b18 (Value.int .i64) encSt (p.seats), mapF b17 encSt (Value.int .i64) (p.taken), blk b6 [.int .i64 x.1, .int .i64 x.2, .int .i64 (k : Int)] 115]) hM
            clear hM
            refine nil ?_
            show Code.wp _ _ _ _ _
            refine seq ?_
            refine seq ?_
            refine cutK (fun f => f 0 = .pointer (some ⟨bp, 0, none⟩) ∧ f 1 = .int .i64 i ∧ f 3 = .map (some mf) ∧ f 6 = .pointer (some ⟨b6, 0, none⟩) ∧ f 9 = .map (some b17) ∧ f 10 = .map (some b18) ∧ f 57 = .int .i64 (chn t x.1).room ∧ f 58 = .int .i64 (k : Int) ∧ f 15 = .int .i64 0 ∧ f 16 = .bool isB ∧ True) ⟨h0, h1, h3, h6, h9, h10, h57, h58, h15, h16, trivial⟩ ?_
            rintro f ⟨h0, h1, h3, h6, h9, h10, h57, h58, h15, h16, -⟩
            refine region ?_
            refine sv (yMove h16) ?_
            refine sv (yMove rfl) ?_
            refine ungn (v := .bool isB) rfl rfl rfl (by rw [his]; simp) ?_
            refine ungn (v := .bool isB) rfl rfl rfl (by rw [his]; simp) ?_
            refine ungn (v := .bool isB) rfl rfl rfl (by rw [his]; simp) ?_
            refine sv (yPick (v := .bool isB) (B := isB) rfl (fun h => absurd h (by rw [his]; decide)) (fun h => (congrArg Value.bool h).symm)) ?_
            refine nil ?_
            show Code.wp _ _ _ _ _
            refine cond rfl (fun c85 => ?_) (fun c85 => ?_)
            ·
              exact absurd c85 (by rw [his]; decide)
            ·
              refine skip ?_
              show Code.wp _ _ _ _ _
              refine seq ?_
              refine cutK (fun f => f 0 = .pointer (some ⟨bp, 0, none⟩) ∧ f 1 = .int .i64 i ∧ f 3 = .map (some mf) ∧ f 6 = .pointer (some ⟨b6, 0, none⟩) ∧ f 9 = .map (some b17) ∧ f 10 = .map (some b18) ∧ f 57 = .int .i64 (chn t x.1).room ∧ f 58 = .int .i64 (k : Int) ∧ f 15 = .int .i64 0 ∧ f 16 = .bool isB ∧ True) ⟨h0, h1, h3, h6, h9, h10, h57, h58, h15, h16, trivial⟩ ?_
              rintro f ⟨h0, h1, h3, h6, h9, h10, h57, h58, h15, h16, -⟩
              refine region_any (C := (fun w => StX [] w0 w [blk b6 [.int .i64 x.1, .int .i64 x.2, .int .i64 (k : Int)] 115, blk bp [.pointer (some ⟨bb, 0, none⟩), .int .i64 now, .slice aw (wetL t).length cw, .map (some mt), .map (some ms)] 108])) mixed 12 18 (by kernel_rfl) (fun c a a' w h => by obtain ⟨_, v, hv, _⟩ := h; cases hv) hS (fun _ h => h.sub (.cons _ (.cons _ (.cons_cons _ (.cons_cons _ (List.nil_sublist _)))))) ?_
              clear hS; intro w hS
              refine hv (fun w hS => (yMove h0)) ?_
              refine hv (fun w hS => (yNil rfl)) ?_
              refine hv (fun w hS => (fa108_3 rfl)) ?_
              refine hv (fun w hS => (yLdB rfl Tryz.isAgg105 (hS.at _) rfl)) ?_
              refine hv (fun w hS => (yLdBA h6 Tryz.isAgg115 Tryz.sizeOf115 (hS.at _) rfl rfl)) ?_
              refine hv (fun w hS => (yMove h0)) ?_
              refine hv (fun w hS => (yNil rfl)) ?_
              refine hv (fun w hS => (fa108_4 rfl)) ?_
              refine hv (fun w hS => (yLdB rfl Tryz.isAgg106 (hS.at _) rfl)) ?_
              refine hv (fun w hS => (yMove h1)) ?_
              refine hv (fun w hS => (yMove h1)) ?_
              refine hv (fun w hS => (yLdBA h6 Tryz.isAgg115 Tryz.sizeOf115 (hS.at _) rfl rfl)) ?_
              refine hnil ?_
              show wpA _ _ _ _ _ _ _ _ _ _
              refine a_step (i := 12) (is := []) (by kernel_rfl) ⟨?_, trivial⟩
              refine ⟨_, rfl, ?_⟩
              refine sentryF (enc := encSt) (dec := Value.int .i64) (z0 := 0) (k := ((x.1, x.2, (k : Int)) : Seat)) hS rfl rfl Tryz.runUnderlying105 keyS Tryz.zeroValue3 ?_; clear hS; intro v101 st101 w hS
              refine nil ?_
              refine ⟨fun _ => hS.sub (.cons _ (.cons _ (.cons_cons _ (.cons_cons _ (List.nil_sublist _))))), ?_⟩
              show wpA _ _ _ _ _ _ _ _ _ _
              refine a_step (i := 13) (is := []) (by kernel_rfl) ⟨?_, trivial⟩
              refine ⟨_, rfl, ?_⟩
              refine sv (yExt rfl rfl) ?_
              refine nil ?_
              refine ⟨fun _ => hS.sub (.cons _ (.cons _ (.cons_cons _ (.cons_cons _ (List.nil_sublist _))))), ?_⟩
              show wpA _ _ _ _ _ _ _ _ _ _
              refine a_step (i := 14) (is := []) (by kernel_rfl) ⟨?_, trivial⟩
              refine ⟨_, rfl, ?_⟩
              refine sestF (enc := encSt) (dec := Value.int .i64) (k := ((x.1, x.2, (k : Int)) : Seat)) (u := i) hS rfl rfl rfl ?_; clear hS; intro w hS
              refine nil ?_
              refine ⟨fun _ => hS.sub (.cons _ (.cons _ (.cons_cons _ (.cons_cons _ (List.nil_sublist _))))), ?_⟩
              show wpA _ _ _ _ _ _ _ _ _ _
              refine a_step (i := 15) (is := []) (by kernel_rfl) ⟨?_, trivial⟩
              refine ⟨_, rfl, ?_⟩
              refine sentryF (enc := Value.int .i64) (dec := encSt) (z0 := (0, 0, 0)) (k := i) hS rfl rfl Tryz.runUnderlying106 keyI3 Tryz.zeroValue115 ?_; clear hS; intro v103 st103 w hS
              refine nil ?_
              refine ⟨fun _ => hS.sub (.cons _ (.cons _ (.cons_cons _ (.cons_cons _ (List.nil_sublist _))))), ?_⟩
              show wpA _ _ _ _ _ _ _ _ _ _
              refine a_step (i := 16) (is := []) (by kernel_rfl) ⟨?_, trivial⟩
              refine ⟨_, rfl, ?_⟩
              refine sv (yExt rfl rfl) ?_
              refine nil ?_
              refine ⟨fun _ => hS.sub (.cons _ (.cons _ (.cons_cons _ (.cons_cons _ (List.nil_sublist _))))), ?_⟩
              show wpA _ _ _ _ _ _ _ _ _ _
              refine a_step (i := 17) (is := []) (by kernel_rfl) ⟨?_, trivial⟩
              refine ⟨_, rfl, ?_⟩
              refine sestF (enc := Value.int .i64) (dec := encSt) (k := i) (u := ((x.1, x.2, (k : Int)) : Seat)) hS rfl rfl rfl ?_; clear hS; intro w hS
              refine nil ?_
              refine ⟨fun _ => hS.sub (.cons _ (.cons _ (.cons_cons _ (.cons_cons _ (List.nil_sublist _))))), ?_⟩
              show wpA _ _ _ _ _ _ _ _ _ _
              refine a_end (by kernel_rfl) ?_
              show Code.wp _ _ _ _ _
              refine seq ?_
              refine region ?_
              refine sv (yMove h3) ?_
              refine sv (yMove h1) ?_
              refine smapsetF (enc := Value.int .i64) (dec := Value.bool) (k := i) (u := true) hS rfl rfl rfl Tryz.runUnderlying109 keyI3 ?_; clear hS; intro w hS
              rw [tr_set] at hS
              refine nil ?_
              show Code.wp _ _ _ _ _
              refine seq ?_
              refine seq ?_
              refine cutK (fun f => f 0 = .pointer (some ⟨bp, 0, none⟩) ∧ f 1 = .int .i64 i ∧ f 3 = .map (some mf) ∧ f 6 = .pointer (some ⟨b6, 0, none⟩) ∧ f 9 = .map (some b17) ∧ f 10 = .map (some b18) ∧ f 57 = .int .i64 (chn t x.1).room ∧ f 58 = .int .i64 (k : Int) ∧ f 15 = .int .i64 0 ∧ f 16 = .bool isB ∧ True) ⟨h0, h1, h3, h6, h9, h10, h57, h58, h15, h16, trivial⟩ ?_
              rintro f ⟨h0, h1, h3, h6, h9, h10, h57, h58, h15, h16, -⟩
              refine region ?_
              refine sv (yMove h16) ?_
              refine sv (yNot rfl) ?_
              refine sv (yMove rfl) ?_
              refine ungn (v := .bool (!isB)) rfl rfl rfl (not_ne his) ?_
              refine ungn (v := .bool (!isB)) rfl rfl rfl (not_ne his) ?_
              refine ungn (v := .bool (!isB)) rfl rfl rfl (not_ne his) ?_
              refine sv (yPick (v := .bool (!isB)) (B := !isB) rfl (fun h => (congrArg Value.bool h).symm) (fun h => absurd h (by rw [his]; decide))) ?_
              refine sv (yMove rfl) ?_
              refine ungn (v := .bool (!isB)) rfl rfl rfl (not_ne his) ?_
              refine ungn (v := .bool (!isB)) rfl rfl rfl (not_ne his) ?_
              refine ungn (v := .bool (!isB)) rfl rfl rfl (not_ne his) ?_
              refine ungn (v := .bool (!isB)) rfl rfl rfl (not_ne his) ?_
              refine sv (yPick (v := .bool (!isB)) (B := !isB) rfl (fun h => (congrArg Value.bool h).symm) (fun h => absurd h (by rw [his]; decide))) ?_
              refine nil ?_
              show Code.wp _ _ _ _ _
              refine cond rfl (fun c119 => ?_) (fun c119 => ?_)
              ·
                refine seq ?_
                refine region ?_
                refine sv (yAsg rfl) ?_
                refine nil ?_
                show Code.wp _ _ _ _ _
                refine wp_ret (thenR (blockR (thenR (thenR (blockR (thenR ?_))))))
                refine retQ (res1 rfl rfl) ?_
                have hfin := (hI.trans (congrArg (fun l => (plT t now).try n i p l) (nums_drop hkr))).trans (try_none ht)
                rw [hfin]
                exact ⟨rfl, mt, ms, hS.sub (.cons _ (.cons _ (.cons _ (List.Sublist.refl _))))⟩
              ·
                exact absurd c119 (by rw [his]; decide)
        ·
          obtain ⟨isB, his⟩ : ∃ b : Bool, b = true := ⟨_, rfl⟩
          refine cutK (fun f => f 0 = .pointer (some ⟨bp, 0, none⟩) ∧ f 1 = .int .i64 i ∧ f 3 = .map (some mf) ∧ f 6 = .pointer (some ⟨b6, 0, none⟩) ∧ f 9 = .map (some b17) ∧ f 10 = .map (some b18) ∧ f 57 = .int .i64 (chn t x.1).room ∧ f 58 = .int .i64 (k : Int) ∧ True) ⟨h0, h1, h3, h6, h9, h10, h57, h58, trivial⟩ ?_
          rintro f ⟨h0, h1, h3, h6, h9, h10, h57, h58, -⟩
          refine region_draw mixed (by kernel_rfl) hS ?_
          refine qv (fun w hS => (yMove h0)) ?_
          refine qv (fun w hS => (yNil rfl)) ?_
          refine qv (fun w hS => (fa108_3 rfl)) ?_
          refine qv (fun w hS => (yLdB rfl Tryz.isAgg105 (hS.at _) rfl)) ?_
          refine qv (fun w hS => (yLdBA h6 Tryz.isAgg115 Tryz.sizeOf115 (hS.at _) rfl rfl)) ?_
          refine qv (fun w hS => (yLookFOk' (dec := Value.int .i64) (k := ((x.1, x.2, (k : Int)) : Seat)) ht (show _ = Value.int .i64 o from rfl) his rfl rfl Tryz.runUnderlying105 keyS Tryz.zeroValue3 (hS.is _))) ?_
          refine qv (fun w hS => (yMove rfl)) ?_
          refine qv (fun w hS => (yExt rfl rfl)) ?_
          refine qv (fun w hS => (yExt rfl rfl)) ?_
          refine qv (fun w hS => (yAsg rfl)) ?_
          refine qv (fun w hS => (yAsg rfl)) ?_
          clear hS; refine qnil (fun w hS => ?_)
          show Code.wp _ _ _ _ _
          refine seq ?_
          refine seq ?_
          refine cutK (fun f => f 0 = .pointer (some ⟨bp, 0, none⟩) ∧ f 1 = .int .i64 i ∧ f 3 = .map (some mf) ∧ f 6 = .pointer (some ⟨b6, 0, none⟩) ∧ f 9 = .map (some b17) ∧ f 10 = .map (some b18) ∧ f 57 = .int .i64 (chn t x.1).room ∧ f 58 = .int .i64 (k : Int) ∧ f 15 = .int .i64 o ∧ f 16 = .bool isB ∧ True) ⟨h0, h1, h3, h6, h9, h10, h57, h58, rfl, rfl, trivial⟩ ?_
          rintro f ⟨h0, h1, h3, h6, h9, h10, h57, h58, h15, h16, -⟩
          refine region ?_
          refine sv (yMove h16) ?_
          refine sv (yMove rfl) ?_
          refine ungo rfl rfl (congrArg Value.bool his) ?_
          refine sv (yMove h3) ?_
          refine ungo rfl rfl (congrArg Value.bool his) ?_
          refine sv (yMove h15) ?_
          refine ungo rfl rfl (congrArg Value.bool his) ?_
          refine sv (yLookF (F := trF p.fixed) (dec := Value.bool) (z := .bool false) (k := o) rfl rfl Tryz.runUnderlying109 keyI3 Tryz.zeroValue4 (hS.is _) (tr_look _ _)) ?_
          refine sv (yPick (v := .bool (p.fixed o)) (B := isB) rfl (fun _ => rfl) (fun h => absurd h (by rw [his]; decide))) ?_
          refine nil ?_
          show Code.wp _ _ _ _ _
          refine cond rfl (fun c76 => ?_) (fun c76 => ?_)
          ·
            refine exit ?_
            show Code.wp _ _ _ _ _
            refine region ?_
            refine sv (yAdd h58 rfl ⟨by omega, by omega⟩) ?_
            refine sv (yMove rfl) ?_
            refine nil ?_
            exact ⟨_, _, rfl, ⟨k + 1, (k : Int), h0, h1, h3, h6, h9, h10, h57, rfl, hS, (by omega), (by rw [hI, nums_drop hkr, try_fix ht hf]), rfl⟩, by omega⟩
          ·
            exact absurd c76 (by rw [hf]; decide)
        ·
          obtain ⟨isB, his⟩ : ∃ b : Bool, b = true := ⟨_, rfl⟩
          refine cutK (fun f => f 0 = .pointer (some ⟨bp, 0, none⟩) ∧ f 1 = .int .i64 i ∧ f 3 = .map (some mf) ∧ f 6 = .pointer (some ⟨b6, 0, none⟩) ∧ f 9 = .map (some b17) ∧ f 10 = .map (some b18) ∧ f 57 = .int .i64 (chn t x.1).room ∧ f 58 = .int .i64 (k : Int) ∧ True) ⟨h0, h1, h3, h6, h9, h10, h57, h58, trivial⟩ ?_
          rintro f ⟨h0, h1, h3, h6, h9, h10, h57, h58, -⟩
          refine region_draw mixed (by kernel_rfl) hS ?_
          refine qv (fun w hS => (yMove h0)) ?_
          refine qv (fun w hS => (yNil rfl)) ?_
          refine qv (fun w hS => (fa108_3 rfl)) ?_
          refine qv (fun w hS => (yLdB rfl Tryz.isAgg105 (hS.at _) rfl)) ?_
          refine qv (fun w hS => (yLdBA h6 Tryz.isAgg115 Tryz.sizeOf115 (hS.at _) rfl rfl)) ?_
          refine qv (fun w hS => (yLookFOk' (dec := Value.int .i64) (k := ((x.1, x.2, (k : Int)) : Seat)) ht (show _ = Value.int .i64 o from rfl) his rfl rfl Tryz.runUnderlying105 keyS Tryz.zeroValue3 (hS.is _))) ?_
          refine qv (fun w hS => (yMove rfl)) ?_
          refine qv (fun w hS => (yExt rfl rfl)) ?_
          refine qv (fun w hS => (yExt rfl rfl)) ?_
          refine qv (fun w hS => (yAsg rfl)) ?_
          refine qv (fun w hS => (yAsg rfl)) ?_
          clear hS; refine qnil (fun w hS => ?_)
          show Code.wp _ _ _ _ _
          refine seq ?_
          refine seq ?_
          refine cutK (fun f => f 0 = .pointer (some ⟨bp, 0, none⟩) ∧ f 1 = .int .i64 i ∧ f 3 = .map (some mf) ∧ f 6 = .pointer (some ⟨b6, 0, none⟩) ∧ f 9 = .map (some b17) ∧ f 10 = .map (some b18) ∧ f 57 = .int .i64 (chn t x.1).room ∧ f 58 = .int .i64 (k : Int) ∧ f 15 = .int .i64 o ∧ f 16 = .bool isB ∧ True) ⟨h0, h1, h3, h6, h9, h10, h57, h58, rfl, rfl, trivial⟩ ?_
          rintro f ⟨h0, h1, h3, h6, h9, h10, h57, h58, h15, h16, -⟩
          refine region ?_
          refine sv (yMove h16) ?_
          refine sv (yMove rfl) ?_
          refine ungo rfl rfl (congrArg Value.bool his) ?_
          refine sv (yMove h3) ?_
          refine ungo rfl rfl (congrArg Value.bool his) ?_
          refine sv (yMove h15) ?_
          refine ungo rfl rfl (congrArg Value.bool his) ?_
          refine sv (yLookF (F := trF p.fixed) (dec := Value.bool) (z := .bool false) (k := o) rfl rfl Tryz.runUnderlying109 keyI3 Tryz.zeroValue4 (hS.is _) (tr_look _ _)) ?_
          refine sv (yPick (v := .bool (p.fixed o)) (B := isB) rfl (fun _ => rfl) (fun h => absurd h (by rw [his]; decide))) ?_
          refine nil ?_
          show Code.wp _ _ _ _ _
          refine cond rfl (fun c76 => ?_) (fun c76 => ?_)
          ·
            exact absurd c76 (by rw [hf]; decide)
          ·
            refine skip ?_
            show Code.wp _ _ _ _ _
            refine seq ?_
            refine region ?_
            refine sv (yMove h0) ?_
            refine sv (yMove h1) ?_
            refine scall Tryz.call105 (.cons rfl (.cons rfl .nil)) (c_free (t := t) (StX.fr (A := [mapF b18 (Value.int .i64) encSt (p.seats), mapF b17 encSt (Value.int .i64) (p.taken), blk b6 [.int .i64 x.1, .int .i64 x.2, .int .i64 (k : Int)] 115]) (B := [blk bp [.pointer (some ⟨bb, 0, none⟩), .int .i64 now, .slice aw (wetL t).length cw, .map (some mt), .map (some ms)] 108, mapF mt encSt (Value.int .i64) (p.taken), mapF ms (Value.int .i64) encSt (p.seats)]) hS)) ?_
            rintro _ w ⟨rfl, hM⟩; clear hS
            replace hS : StX [] w0 w (mapF b18 (Value.int .i64) encSt (p.seats) :: mapF b17 encSt (Value.int .i64) (p.taken) :: blk b6 [.int .i64 x.1, .int .i64 x.2, .int .i64 (k : Int)] 115 :: blk bp [.pointer (some ⟨bb, 0, none⟩), .int .i64 now, .slice aw (wetL t).length cw, .map (some mt), .map (some ms)] 108 :: mapF mt encSt (Value.int .i64) ((p.free i).taken) :: mapF ms (Value.int .i64) encSt ((p.free i).seats) :: mapF mf (Value.int .i64) Value.bool (trF (p.fixed)) :: L9) := StX.fr (A := [blk bp [.pointer (some ⟨bb, 0, none⟩), .int .i64 now, .slice aw (wetL t).length cw, .map (some mt), .map (some ms)] 108, mapF mt encSt (Value.int .i64) ((p.free i).taken), mapF ms (Value.int .i64) encSt ((p.free i).seats)]) (B := [mapF b18 (Value.int .i64) encSt (p.seats), mapF b17 encSt (Value.int .i64) (p.taken), blk b6 [.int .i64 x.1, .int .i64 x.2, .int .i64 (k : Int)] 115]) hM
            clear hM
            refine nil ?_
            show Code.wp _ _ _ _ _
            refine seq ?_
            refine seq ?_
            refine cutK (fun f => f 0 = .pointer (some ⟨bp, 0, none⟩) ∧ f 1 = .int .i64 i ∧ f 3 = .map (some mf) ∧ f 6 = .pointer (some ⟨b6, 0, none⟩) ∧ f 9 = .map (some b17) ∧ f 10 = .map (some b18) ∧ f 57 = .int .i64 (chn t x.1).room ∧ f 58 = .int .i64 (k : Int) ∧ f 15 = .int .i64 o ∧ f 16 = .bool isB ∧ True) ⟨h0, h1, h3, h6, h9, h10, h57, h58, h15, h16, trivial⟩ ?_
            rintro f ⟨h0, h1, h3, h6, h9, h10, h57, h58, h15, h16, -⟩
            refine region ?_
            refine sv (yMove h16) ?_
            refine sv (yMove rfl) ?_
            refine ungo rfl rfl (congrArg Value.bool his) ?_
            refine sv (yMove h15) ?_
            refine ungo rfl rfl (congrArg Value.bool his) ?_
            refine sv (yMove h1) ?_
            refine ungo rfl rfl (congrArg Value.bool his) ?_
            refine sv (yNeq rfl rfl) ?_
            refine sv (yPick (v := .bool (decide (o ≠ i))) (B := isB) rfl (fun _ => rfl) (fun h => absurd h (by rw [his]; decide))) ?_
            refine nil ?_
            show Code.wp _ _ _ _ _
            refine cond rfl (fun c85 => ?_) (fun c85 => ?_)
            ·
              exact absurd (of_decide_eq_true c85) (fun h => h hoi)
            ·
              refine skip ?_
              show Code.wp _ _ _ _ _
              refine seq ?_
              refine cutK (fun f => f 0 = .pointer (some ⟨bp, 0, none⟩) ∧ f 1 = .int .i64 i ∧ f 3 = .map (some mf) ∧ f 6 = .pointer (some ⟨b6, 0, none⟩) ∧ f 9 = .map (some b17) ∧ f 10 = .map (some b18) ∧ f 57 = .int .i64 (chn t x.1).room ∧ f 58 = .int .i64 (k : Int) ∧ f 15 = .int .i64 o ∧ f 16 = .bool isB ∧ True) ⟨h0, h1, h3, h6, h9, h10, h57, h58, h15, h16, trivial⟩ ?_
              rintro f ⟨h0, h1, h3, h6, h9, h10, h57, h58, h15, h16, -⟩
              refine region_any (C := (fun w => StX [] w0 w [blk b6 [.int .i64 x.1, .int .i64 x.2, .int .i64 (k : Int)] 115, blk bp [.pointer (some ⟨bb, 0, none⟩), .int .i64 now, .slice aw (wetL t).length cw, .map (some mt), .map (some ms)] 108])) mixed 12 18 (by kernel_rfl) (fun c a a' w h => by obtain ⟨_, v, hv, _⟩ := h; cases hv) hS (fun _ h => h.sub (.cons _ (.cons _ (.cons_cons _ (.cons_cons _ (List.nil_sublist _)))))) ?_
              clear hS; intro w hS
              refine hv (fun w hS => (yMove h0)) ?_
              refine hv (fun w hS => (yNil rfl)) ?_
              refine hv (fun w hS => (fa108_3 rfl)) ?_
              refine hv (fun w hS => (yLdB rfl Tryz.isAgg105 (hS.at _) rfl)) ?_
              refine hv (fun w hS => (yLdBA h6 Tryz.isAgg115 Tryz.sizeOf115 (hS.at _) rfl rfl)) ?_
              refine hv (fun w hS => (yMove h0)) ?_
              refine hv (fun w hS => (yNil rfl)) ?_
              refine hv (fun w hS => (fa108_4 rfl)) ?_
              refine hv (fun w hS => (yLdB rfl Tryz.isAgg106 (hS.at _) rfl)) ?_
              refine hv (fun w hS => (yMove h1)) ?_
              refine hv (fun w hS => (yMove h1)) ?_
              refine hv (fun w hS => (yLdBA h6 Tryz.isAgg115 Tryz.sizeOf115 (hS.at _) rfl rfl)) ?_
              refine hnil ?_
              show wpA _ _ _ _ _ _ _ _ _ _
              refine a_step (i := 12) (is := []) (by kernel_rfl) ⟨?_, trivial⟩
              refine ⟨_, rfl, ?_⟩
              refine sentryF (enc := encSt) (dec := Value.int .i64) (z0 := 0) (k := ((x.1, x.2, (k : Int)) : Seat)) hS rfl rfl Tryz.runUnderlying105 keyS Tryz.zeroValue3 ?_; clear hS; intro v101 st101 w hS
              refine nil ?_
              refine ⟨fun _ => hS.sub (.cons _ (.cons _ (.cons_cons _ (.cons_cons _ (List.nil_sublist _))))), ?_⟩
              show wpA _ _ _ _ _ _ _ _ _ _
              refine a_step (i := 13) (is := []) (by kernel_rfl) ⟨?_, trivial⟩
              refine ⟨_, rfl, ?_⟩
              refine sv (yExt rfl rfl) ?_
              refine nil ?_
              refine ⟨fun _ => hS.sub (.cons _ (.cons _ (.cons_cons _ (.cons_cons _ (List.nil_sublist _))))), ?_⟩
              show wpA _ _ _ _ _ _ _ _ _ _
              refine a_step (i := 14) (is := []) (by kernel_rfl) ⟨?_, trivial⟩
              refine ⟨_, rfl, ?_⟩
              refine sestF (enc := encSt) (dec := Value.int .i64) (k := ((x.1, x.2, (k : Int)) : Seat)) (u := i) hS rfl rfl rfl ?_; clear hS; intro w hS
              refine nil ?_
              refine ⟨fun _ => hS.sub (.cons _ (.cons _ (.cons_cons _ (.cons_cons _ (List.nil_sublist _))))), ?_⟩
              show wpA _ _ _ _ _ _ _ _ _ _
              refine a_step (i := 15) (is := []) (by kernel_rfl) ⟨?_, trivial⟩
              refine ⟨_, rfl, ?_⟩
              refine sentryF (enc := Value.int .i64) (dec := encSt) (z0 := (0, 0, 0)) (k := i) hS rfl rfl Tryz.runUnderlying106 keyI3 Tryz.zeroValue115 ?_; clear hS; intro v103 st103 w hS
              refine nil ?_
              refine ⟨fun _ => hS.sub (.cons _ (.cons _ (.cons_cons _ (.cons_cons _ (List.nil_sublist _))))), ?_⟩
              show wpA _ _ _ _ _ _ _ _ _ _
              refine a_step (i := 16) (is := []) (by kernel_rfl) ⟨?_, trivial⟩
              refine ⟨_, rfl, ?_⟩
              refine sv (yExt rfl rfl) ?_
              refine nil ?_
              refine ⟨fun _ => hS.sub (.cons _ (.cons _ (.cons_cons _ (.cons_cons _ (List.nil_sublist _))))), ?_⟩
              show wpA _ _ _ _ _ _ _ _ _ _
              refine a_step (i := 17) (is := []) (by kernel_rfl) ⟨?_, trivial⟩
              refine ⟨_, rfl, ?_⟩
              refine sestF (enc := Value.int .i64) (dec := encSt) (k := i) (u := ((x.1, x.2, (k : Int)) : Seat)) hS rfl rfl rfl ?_; clear hS; intro w hS
              refine nil ?_
              refine ⟨fun _ => hS.sub (.cons _ (.cons _ (.cons_cons _ (.cons_cons _ (List.nil_sublist _))))), ?_⟩
              show wpA _ _ _ _ _ _ _ _ _ _
              refine a_end (by kernel_rfl) ?_
              show Code.wp _ _ _ _ _
              refine seq ?_
              refine region ?_
              refine sv (yMove h3) ?_
              refine sv (yMove h1) ?_
              refine smapsetF (enc := Value.int .i64) (dec := Value.bool) (k := i) (u := true) hS rfl rfl rfl Tryz.runUnderlying109 keyI3 ?_; clear hS; intro w hS
              rw [tr_set] at hS
              refine nil ?_
              show Code.wp _ _ _ _ _
              refine seq ?_
              refine seq ?_
              refine cutK (fun f => f 0 = .pointer (some ⟨bp, 0, none⟩) ∧ f 1 = .int .i64 i ∧ f 3 = .map (some mf) ∧ f 6 = .pointer (some ⟨b6, 0, none⟩) ∧ f 9 = .map (some b17) ∧ f 10 = .map (some b18) ∧ f 57 = .int .i64 (chn t x.1).room ∧ f 58 = .int .i64 (k : Int) ∧ f 15 = .int .i64 o ∧ f 16 = .bool isB ∧ True) ⟨h0, h1, h3, h6, h9, h10, h57, h58, h15, h16, trivial⟩ ?_
              rintro f ⟨h0, h1, h3, h6, h9, h10, h57, h58, h15, h16, -⟩
              refine region ?_
              refine sv (yMove h16) ?_
              refine sv (yNot rfl) ?_
              refine sv (yMove rfl) ?_
              refine ungo rfl rfl (not_is his rfl) ?_
              refine sv (yMove h15) ?_
              refine ungo rfl rfl (not_is his rfl) ?_
              refine sv (yMove h1) ?_
              refine ungo rfl rfl (not_is his rfl) ?_
              refine sv (yEql rfl rfl) ?_
              refine sv (yPick (v := .bool (decide (o = i))) (B := !isB) rfl (fun h => absurd h (by rw [his]; decide)) (fun _ => rfl)) ?_
              refine sv (yMove rfl) ?_
              refine ungn (v := .bool (decide (o = i))) rfl rfl rfl (by rw [decide_eq_true hoi]; simp) ?_
              refine ungn (v := .bool (decide (o = i))) rfl rfl rfl (by rw [decide_eq_true hoi]; simp) ?_
              refine ungn (v := .bool (decide (o = i))) rfl rfl rfl (by rw [decide_eq_true hoi]; simp) ?_
              refine ungn (v := .bool (decide (o = i))) rfl rfl rfl (by rw [decide_eq_true hoi]; simp) ?_
              refine sv (yPick (v := .bool (decide (o = i))) (B := decide (o = i)) rfl (fun h => (congrArg Value.bool h).symm) (fun h => absurd h (by rw [decide_eq_true hoi]; decide))) ?_
              refine nil ?_
              show Code.wp _ _ _ _ _
              refine cond rfl (fun c119 => ?_) (fun c119 => ?_)
              ·
                refine seq ?_
                refine region ?_
                refine sv (yAsg rfl) ?_
                refine nil ?_
                show Code.wp _ _ _ _ _
                refine wp_ret (thenR (blockR (thenR (thenR (blockR (thenR ?_))))))
                refine retQ (res1 rfl rfl) ?_
                have hfin := (hI.trans (congrArg (fun l => (plT t now).try n i p l) (nums_drop hkr))).trans (try_own ht hf hoi)
                rw [hfin]
                exact ⟨rfl, mt, ms, hS.sub (.cons _ (.cons _ (.cons _ (List.Sublist.refl _))))⟩
              ·
                exact absurd (of_decide_eq_false c119) (fun h => h hoi)
        ·
          obtain ⟨isB, his⟩ : ∃ b : Bool, b = true := ⟨_, rfl⟩
          refine cutK (fun f => f 0 = .pointer (some ⟨bp, 0, none⟩) ∧ f 1 = .int .i64 i ∧ f 3 = .map (some mf) ∧ f 6 = .pointer (some ⟨b6, 0, none⟩) ∧ f 9 = .map (some b17) ∧ f 10 = .map (some b18) ∧ f 57 = .int .i64 (chn t x.1).room ∧ f 58 = .int .i64 (k : Int) ∧ True) ⟨h0, h1, h3, h6, h9, h10, h57, h58, trivial⟩ ?_
          rintro f ⟨h0, h1, h3, h6, h9, h10, h57, h58, -⟩
          refine region_draw mixed (by kernel_rfl) hS ?_
          refine qv (fun w hS => (yMove h0)) ?_
          refine qv (fun w hS => (yNil rfl)) ?_
          refine qv (fun w hS => (fa108_3 rfl)) ?_
          refine qv (fun w hS => (yLdB rfl Tryz.isAgg105 (hS.at _) rfl)) ?_
          refine qv (fun w hS => (yLdBA h6 Tryz.isAgg115 Tryz.sizeOf115 (hS.at _) rfl rfl)) ?_
          refine qv (fun w hS => (yLookFOk' (dec := Value.int .i64) (k := ((x.1, x.2, (k : Int)) : Seat)) ht (show _ = Value.int .i64 o from rfl) his rfl rfl Tryz.runUnderlying105 keyS Tryz.zeroValue3 (hS.is _))) ?_
          refine qv (fun w hS => (yMove rfl)) ?_
          refine qv (fun w hS => (yExt rfl rfl)) ?_
          refine qv (fun w hS => (yExt rfl rfl)) ?_
          refine qv (fun w hS => (yAsg rfl)) ?_
          refine qv (fun w hS => (yAsg rfl)) ?_
          clear hS; refine qnil (fun w hS => ?_)
          show Code.wp _ _ _ _ _
          refine seq ?_
          refine seq ?_
          refine cutK (fun f => f 0 = .pointer (some ⟨bp, 0, none⟩) ∧ f 1 = .int .i64 i ∧ f 3 = .map (some mf) ∧ f 6 = .pointer (some ⟨b6, 0, none⟩) ∧ f 9 = .map (some b17) ∧ f 10 = .map (some b18) ∧ f 57 = .int .i64 (chn t x.1).room ∧ f 58 = .int .i64 (k : Int) ∧ f 15 = .int .i64 o ∧ f 16 = .bool isB ∧ True) ⟨h0, h1, h3, h6, h9, h10, h57, h58, rfl, rfl, trivial⟩ ?_
          rintro f ⟨h0, h1, h3, h6, h9, h10, h57, h58, h15, h16, -⟩
          refine region ?_
          refine sv (yMove h16) ?_
          refine sv (yMove rfl) ?_
          refine ungo rfl rfl (congrArg Value.bool his) ?_
          refine sv (yMove h3) ?_
          refine ungo rfl rfl (congrArg Value.bool his) ?_
          refine sv (yMove h15) ?_
          refine ungo rfl rfl (congrArg Value.bool his) ?_
          refine sv (yLookF (F := trF p.fixed) (dec := Value.bool) (z := .bool false) (k := o) rfl rfl Tryz.runUnderlying109 keyI3 Tryz.zeroValue4 (hS.is _) (tr_look _ _)) ?_
          refine sv (yPick (v := .bool (p.fixed o)) (B := isB) rfl (fun _ => rfl) (fun h => absurd h (by rw [his]; decide))) ?_
          refine nil ?_
          show Code.wp _ _ _ _ _
          refine cond rfl (fun c76 => ?_) (fun c76 => ?_)
          ·
            exact absurd c76 (by rw [hf]; decide)
          ·
            refine skip ?_
            show Code.wp _ _ _ _ _
            refine seq ?_
            refine region ?_
            refine sv (yMove h0) ?_
            refine sv (yMove h1) ?_
            refine scall Tryz.call105 (.cons rfl (.cons rfl .nil)) (c_free (t := t) (StX.fr (A := [mapF b18 (Value.int .i64) encSt (p.seats), mapF b17 encSt (Value.int .i64) (p.taken), blk b6 [.int .i64 x.1, .int .i64 x.2, .int .i64 (k : Int)] 115]) (B := [blk bp [.pointer (some ⟨bb, 0, none⟩), .int .i64 now, .slice aw (wetL t).length cw, .map (some mt), .map (some ms)] 108, mapF mt encSt (Value.int .i64) (p.taken), mapF ms (Value.int .i64) encSt (p.seats)]) hS)) ?_
            rintro _ w ⟨rfl, hM⟩; clear hS
            replace hS : StX [] w0 w (mapF b18 (Value.int .i64) encSt (p.seats) :: mapF b17 encSt (Value.int .i64) (p.taken) :: blk b6 [.int .i64 x.1, .int .i64 x.2, .int .i64 (k : Int)] 115 :: blk bp [.pointer (some ⟨bb, 0, none⟩), .int .i64 now, .slice aw (wetL t).length cw, .map (some mt), .map (some ms)] 108 :: mapF mt encSt (Value.int .i64) ((p.free i).taken) :: mapF ms (Value.int .i64) encSt ((p.free i).seats) :: mapF mf (Value.int .i64) Value.bool (trF (p.fixed)) :: L9) := StX.fr (A := [blk bp [.pointer (some ⟨bb, 0, none⟩), .int .i64 now, .slice aw (wetL t).length cw, .map (some mt), .map (some ms)] 108, mapF mt encSt (Value.int .i64) ((p.free i).taken), mapF ms (Value.int .i64) encSt ((p.free i).seats)]) (B := [mapF b18 (Value.int .i64) encSt (p.seats), mapF b17 encSt (Value.int .i64) (p.taken), blk b6 [.int .i64 x.1, .int .i64 x.2, .int .i64 (k : Int)] 115]) hM
            clear hM
            refine nil ?_
            show Code.wp _ _ _ _ _
            refine seq ?_
            refine seq ?_
            refine cutK (fun f => f 0 = .pointer (some ⟨bp, 0, none⟩) ∧ f 1 = .int .i64 i ∧ f 3 = .map (some mf) ∧ f 6 = .pointer (some ⟨b6, 0, none⟩) ∧ f 9 = .map (some b17) ∧ f 10 = .map (some b18) ∧ f 57 = .int .i64 (chn t x.1).room ∧ f 58 = .int .i64 (k : Int) ∧ f 15 = .int .i64 o ∧ f 16 = .bool isB ∧ True) ⟨h0, h1, h3, h6, h9, h10, h57, h58, h15, h16, trivial⟩ ?_
            rintro f ⟨h0, h1, h3, h6, h9, h10, h57, h58, h15, h16, -⟩
            refine region ?_
            refine sv (yMove h16) ?_
            refine sv (yMove rfl) ?_
            refine ungo rfl rfl (congrArg Value.bool his) ?_
            refine sv (yMove h15) ?_
            refine ungo rfl rfl (congrArg Value.bool his) ?_
            refine sv (yMove h1) ?_
            refine ungo rfl rfl (congrArg Value.bool his) ?_
            refine sv (yNeq rfl rfl) ?_
            refine sv (yPick (v := .bool (decide (o ≠ i))) (B := isB) rfl (fun _ => rfl) (fun h => absurd h (by rw [his]; decide))) ?_
            refine nil ?_
            show Code.wp _ _ _ _ _
            refine cond rfl (fun c85 => ?_) (fun c85 => ?_)
            ·
              refine region ?_
              refine sv (yMove h0) ?_
              refine sv (yMove h15) ?_
              refine scall Tryz.call105 (.cons rfl (.cons rfl .nil)) (c_free (t := t) (StX.fr (A := [mapF b18 (Value.int .i64) encSt (p.seats), mapF b17 encSt (Value.int .i64) (p.taken), blk b6 [.int .i64 x.1, .int .i64 x.2, .int .i64 (k : Int)] 115]) (B := [blk bp [.pointer (some ⟨bb, 0, none⟩), .int .i64 now, .slice aw (wetL t).length cw, .map (some mt), .map (some ms)] 108, mapF mt encSt (Value.int .i64) ((p.free i).taken), mapF ms (Value.int .i64) encSt ((p.free i).seats)]) hS)) ?_
              rintro _ w ⟨rfl, hM⟩; clear hS
              replace hS : StX [] w0 w (mapF b18 (Value.int .i64) encSt (p.seats) :: mapF b17 encSt (Value.int .i64) (p.taken) :: blk b6 [.int .i64 x.1, .int .i64 x.2, .int .i64 (k : Int)] 115 :: blk bp [.pointer (some ⟨bb, 0, none⟩), .int .i64 now, .slice aw (wetL t).length cw, .map (some mt), .map (some ms)] 108 :: mapF mt encSt (Value.int .i64) (((p.free i).free o).taken) :: mapF ms (Value.int .i64) encSt (((p.free i).free o).seats) :: mapF mf (Value.int .i64) Value.bool (trF (p.fixed)) :: L9) := StX.fr (A := [blk bp [.pointer (some ⟨bb, 0, none⟩), .int .i64 now, .slice aw (wetL t).length cw, .map (some mt), .map (some ms)] 108, mapF mt encSt (Value.int .i64) (((p.free i).free o).taken), mapF ms (Value.int .i64) encSt (((p.free i).free o).seats)]) (B := [mapF b18 (Value.int .i64) encSt (p.seats), mapF b17 encSt (Value.int .i64) (p.taken), blk b6 [.int .i64 x.1, .int .i64 x.2, .int .i64 (k : Int)] 115]) hM
              clear hM
              refine nil ?_
              show Code.wp _ _ _ _ _
              refine seq ?_
              refine cutK (fun f => f 0 = .pointer (some ⟨bp, 0, none⟩) ∧ f 1 = .int .i64 i ∧ f 3 = .map (some mf) ∧ f 6 = .pointer (some ⟨b6, 0, none⟩) ∧ f 9 = .map (some b17) ∧ f 10 = .map (some b18) ∧ f 57 = .int .i64 (chn t x.1).room ∧ f 58 = .int .i64 (k : Int) ∧ f 15 = .int .i64 o ∧ f 16 = .bool isB ∧ True) ⟨h0, h1, h3, h6, h9, h10, h57, h58, h15, h16, trivial⟩ ?_
              rintro f ⟨h0, h1, h3, h6, h9, h10, h57, h58, h15, h16, -⟩
              refine region_any (C := (fun w => StX [] w0 w [blk b6 [.int .i64 x.1, .int .i64 x.2, .int .i64 (k : Int)] 115, blk bp [.pointer (some ⟨bb, 0, none⟩), .int .i64 now, .slice aw (wetL t).length cw, .map (some mt), .map (some ms)] 108])) mixed 12 18 (by kernel_rfl) (fun c a a' w h => by obtain ⟨_, v, hv, _⟩ := h; cases hv) hS (fun _ h => h.sub (.cons _ (.cons _ (.cons_cons _ (.cons_cons _ (List.nil_sublist _)))))) ?_
              clear hS; intro w hS
              refine hv (fun w hS => (yMove h0)) ?_
              refine hv (fun w hS => (yNil rfl)) ?_
              refine hv (fun w hS => (fa108_3 rfl)) ?_
              refine hv (fun w hS => (yLdB rfl Tryz.isAgg105 (hS.at _) rfl)) ?_
              refine hv (fun w hS => (yLdBA h6 Tryz.isAgg115 Tryz.sizeOf115 (hS.at _) rfl rfl)) ?_
              refine hv (fun w hS => (yMove h0)) ?_
              refine hv (fun w hS => (yNil rfl)) ?_
              refine hv (fun w hS => (fa108_4 rfl)) ?_
              refine hv (fun w hS => (yLdB rfl Tryz.isAgg106 (hS.at _) rfl)) ?_
              refine hv (fun w hS => (yMove h1)) ?_
              refine hv (fun w hS => (yMove h1)) ?_
              refine hv (fun w hS => (yLdBA h6 Tryz.isAgg115 Tryz.sizeOf115 (hS.at _) rfl rfl)) ?_
              refine hnil ?_
              show wpA _ _ _ _ _ _ _ _ _ _
              refine a_step (i := 12) (is := []) (by kernel_rfl) ⟨?_, trivial⟩
              refine ⟨_, rfl, ?_⟩
              refine sentryF (enc := encSt) (dec := Value.int .i64) (z0 := 0) (k := ((x.1, x.2, (k : Int)) : Seat)) hS rfl rfl Tryz.runUnderlying105 keyS Tryz.zeroValue3 ?_; clear hS; intro v101 st101 w hS
              refine nil ?_
              refine ⟨fun _ => hS.sub (.cons _ (.cons _ (.cons_cons _ (.cons_cons _ (List.nil_sublist _))))), ?_⟩
              show wpA _ _ _ _ _ _ _ _ _ _
              refine a_step (i := 13) (is := []) (by kernel_rfl) ⟨?_, trivial⟩
              refine ⟨_, rfl, ?_⟩
              refine sv (yExt rfl rfl) ?_
              refine nil ?_
              refine ⟨fun _ => hS.sub (.cons _ (.cons _ (.cons_cons _ (.cons_cons _ (List.nil_sublist _))))), ?_⟩
              show wpA _ _ _ _ _ _ _ _ _ _
              refine a_step (i := 14) (is := []) (by kernel_rfl) ⟨?_, trivial⟩
              refine ⟨_, rfl, ?_⟩
              refine sestF (enc := encSt) (dec := Value.int .i64) (k := ((x.1, x.2, (k : Int)) : Seat)) (u := i) hS rfl rfl rfl ?_; clear hS; intro w hS
              refine nil ?_
              refine ⟨fun _ => hS.sub (.cons _ (.cons _ (.cons_cons _ (.cons_cons _ (List.nil_sublist _))))), ?_⟩
              show wpA _ _ _ _ _ _ _ _ _ _
              refine a_step (i := 15) (is := []) (by kernel_rfl) ⟨?_, trivial⟩
              refine ⟨_, rfl, ?_⟩
              refine sentryF (enc := Value.int .i64) (dec := encSt) (z0 := (0, 0, 0)) (k := i) hS rfl rfl Tryz.runUnderlying106 keyI3 Tryz.zeroValue115 ?_; clear hS; intro v103 st103 w hS
              refine nil ?_
              refine ⟨fun _ => hS.sub (.cons _ (.cons _ (.cons_cons _ (.cons_cons _ (List.nil_sublist _))))), ?_⟩
              show wpA _ _ _ _ _ _ _ _ _ _
              refine a_step (i := 16) (is := []) (by kernel_rfl) ⟨?_, trivial⟩
              refine ⟨_, rfl, ?_⟩
              refine sv (yExt rfl rfl) ?_
              refine nil ?_
              refine ⟨fun _ => hS.sub (.cons _ (.cons _ (.cons_cons _ (.cons_cons _ (List.nil_sublist _))))), ?_⟩
              show wpA _ _ _ _ _ _ _ _ _ _
              refine a_step (i := 17) (is := []) (by kernel_rfl) ⟨?_, trivial⟩
              refine ⟨_, rfl, ?_⟩
              refine sestF (enc := Value.int .i64) (dec := encSt) (k := i) (u := ((x.1, x.2, (k : Int)) : Seat)) hS rfl rfl rfl ?_; clear hS; intro w hS
              refine nil ?_
              refine ⟨fun _ => hS.sub (.cons _ (.cons _ (.cons_cons _ (.cons_cons _ (List.nil_sublist _))))), ?_⟩
              show wpA _ _ _ _ _ _ _ _ _ _
              refine a_end (by kernel_rfl) ?_
              show Code.wp _ _ _ _ _
              refine seq ?_
              refine region ?_
              refine sv (yMove h3) ?_
              refine sv (yMove h1) ?_
              refine smapsetF (enc := Value.int .i64) (dec := Value.bool) (k := i) (u := true) hS rfl rfl rfl Tryz.runUnderlying109 keyI3 ?_; clear hS; intro w hS
              rw [tr_set] at hS
              refine nil ?_
              show Code.wp _ _ _ _ _
              refine seq ?_
              refine seq ?_
              refine cutK (fun f => f 0 = .pointer (some ⟨bp, 0, none⟩) ∧ f 1 = .int .i64 i ∧ f 3 = .map (some mf) ∧ f 6 = .pointer (some ⟨b6, 0, none⟩) ∧ f 9 = .map (some b17) ∧ f 10 = .map (some b18) ∧ f 57 = .int .i64 (chn t x.1).room ∧ f 58 = .int .i64 (k : Int) ∧ f 15 = .int .i64 o ∧ f 16 = .bool isB ∧ True) ⟨h0, h1, h3, h6, h9, h10, h57, h58, h15, h16, trivial⟩ ?_
              rintro f ⟨h0, h1, h3, h6, h9, h10, h57, h58, h15, h16, -⟩
              refine region ?_
              refine sv (yMove h16) ?_
              refine sv (yNot rfl) ?_
              refine sv (yMove rfl) ?_
              refine ungo rfl rfl (not_is his rfl) ?_
              refine sv (yMove h15) ?_
              refine ungo rfl rfl (not_is his rfl) ?_
              refine sv (yMove h1) ?_
              refine ungo rfl rfl (not_is his rfl) ?_
              refine sv (yEql rfl rfl) ?_
              refine sv (yPick (v := .bool (decide (o = i))) (B := !isB) rfl (fun h => absurd h (by rw [his]; decide)) (fun _ => rfl)) ?_
              refine sv (yMove rfl) ?_
              refine ungo rfl rfl (congrArg Value.bool (decide_eq_false hoi)) ?_
              refine sv (yMove h0) ?_
              refine ungo rfl rfl (congrArg Value.bool (decide_eq_false hoi)) ?_
              refine sv (yMove h15) ?_
              refine ungo rfl rfl (congrArg Value.bool (decide_eq_false hoi)) ?_
              refine sv (yMove h3) ?_
              refine ungo rfl rfl (congrArg Value.bool (decide_eq_false hoi)) ?_
              refine scall Tryz.call49 (.cons rfl (.cons rfl (.cons rfl .nil))) (c_settle hB hn hcn (vld_put (vld_free (p := p.free i) (vld_free hvl i) o) hi ((x.1, x.2, (k : Int)) : Seat)) (hvl _ o ht) (StX.fr (A := [mapF b18 (Value.int .i64) encSt (p.seats), mapF b17 encSt (Value.int .i64) (p.taken), blk b6 [.int .i64 x.1, .int .i64 x.2, .int .i64 (k : Int)] 115]) (B := [blk bp [.pointer (some ⟨bb, 0, none⟩), .int .i64 now, .slice aw (wetL t).length cw, .map (some mt), .map (some ms)] 108, mapF mt encSt (Value.int .i64) ((((p.free i).free o).sit ((x.1, x.2, (k : Int)) : Seat) i).taken), mapF ms (Value.int .i64) encSt ((((p.free i).free o).sit ((x.1, x.2, (k : Int)) : Seat) i).seats), mapF mf (Value.int .i64) Value.bool (trF ((((p.free i).free o).sit ((x.1, x.2, (k : Int)) : Seat) i).fixed))]) (show StX [] w0 w (mapF b18 (Value.int .i64) encSt (p.seats) :: mapF b17 encSt (Value.int .i64) (p.taken) :: blk b6 [.int .i64 x.1, .int .i64 x.2, .int .i64 (k : Int)] 115 :: blk bp [.pointer (some ⟨bb, 0, none⟩), .int .i64 now, .slice aw (wetL t).length cw, .map (some mt), .map (some ms)] 108 :: mapF mt encSt (Value.int .i64) ((((p.free i).free o).sit ((x.1, x.2, (k : Int)) : Seat) i).taken) :: mapF ms (Value.int .i64) encSt ((((p.free i).free o).sit ((x.1, x.2, (k : Int)) : Seat) i).seats) :: mapF mf (Value.int .i64) Value.bool (trF ((((p.free i).free o).sit ((x.1, x.2, (k : Int)) : Seat) i).fixed)) :: L9) from hS))) ?_
              rintro _ w ⟨rfl, hM⟩; clear hS
              replace hS : StX [] w0 w (mapF b18 (Value.int .i64) encSt (p.seats) :: mapF b17 encSt (Value.int .i64) (p.taken) :: blk b6 [.int .i64 x.1, .int .i64 x.2, .int .i64 (k : Int)] 115 :: blk bp [.pointer (some ⟨bb, 0, none⟩), .int .i64 now, .slice aw (wetL t).length cw, .map (some mt), .map (some ms)] 108 :: mapF mt encSt (Value.int .i64) (((plT t now).settle n (((p.free i).free o).sit ((x.1, x.2, (k : Int)) : Seat) i).fixed o (((p.free i).free o).sit ((x.1, x.2, (k : Int)) : Seat) i).taken (((p.free i).free o).sit ((x.1, x.2, (k : Int)) : Seat) i).seats).2.taken) :: mapF ms (Value.int .i64) encSt (((plT t now).settle n (((p.free i).free o).sit ((x.1, x.2, (k : Int)) : Seat) i).fixed o (((p.free i).free o).sit ((x.1, x.2, (k : Int)) : Seat) i).taken (((p.free i).free o).sit ((x.1, x.2, (k : Int)) : Seat) i).seats).2.seats) :: mapF mf (Value.int .i64) Value.bool (trF ((((p.free i).free o).sit ((x.1, x.2, (k : Int)) : Seat) i).fixed)) :: L9) := StX.fr (A := [blk bp [.pointer (some ⟨bb, 0, none⟩), .int .i64 now, .slice aw (wetL t).length cw, .map (some mt), .map (some ms)] 108, mapF mt encSt (Value.int .i64) (((plT t now).settle n (((p.free i).free o).sit ((x.1, x.2, (k : Int)) : Seat) i).fixed o (((p.free i).free o).sit ((x.1, x.2, (k : Int)) : Seat) i).taken (((p.free i).free o).sit ((x.1, x.2, (k : Int)) : Seat) i).seats).2.taken), mapF ms (Value.int .i64) encSt (((plT t now).settle n (((p.free i).free o).sit ((x.1, x.2, (k : Int)) : Seat) i).fixed o (((p.free i).free o).sit ((x.1, x.2, (k : Int)) : Seat) i).taken (((p.free i).free o).sit ((x.1, x.2, (k : Int)) : Seat) i).seats).2.seats), mapF mf (Value.int .i64) Value.bool (trF ((((p.free i).free o).sit ((x.1, x.2, (k : Int)) : Seat) i).fixed))]) (B := [mapF b18 (Value.int .i64) encSt (p.seats), mapF b17 encSt (Value.int .i64) (p.taken), blk b6 [.int .i64 x.1, .int .i64 x.2, .int .i64 (k : Int)] 115]) hM
              clear hM
              refine sv (yPick (v := .bool ((plT t now).settle n (((p.free i).free o).sit ((x.1, x.2, (k : Int)) : Seat) i).fixed o (((p.free i).free o).sit ((x.1, x.2, (k : Int)) : Seat) i).taken (((p.free i).free o).sit ((x.1, x.2, (k : Int)) : Seat) i).seats).1) (B := decide (o = i)) rfl (fun h => absurd h (by rw [decide_eq_false hoi]; decide)) (fun _ => rfl)) ?_
              refine nil ?_
              show Code.wp _ _ _ _ _
              refine cond rfl (fun c119 => ?_) (fun c119 => ?_)
              ·
                refine seq ?_
                refine region ?_
                refine sv (yAsg rfl) ?_
                refine nil ?_
                show Code.wp _ _ _ _ _
                refine wp_ret (thenR (blockR (thenR (thenR (blockR (thenR ?_))))))
                refine retQ (res1 rfl rfl) ?_
                have hfin := (hI.trans (congrArg (fun l => (plT t now).try n i p l) (nums_drop hkr))).trans ((try_set ht hf hoi rfl rfl).trans (if_pos c119))
                rw [hfin]
                exact ⟨rfl, mt, ms, hS.sub (.cons _ (.cons _ (.cons _ (List.Sublist.refl _))))⟩
              ·
                refine skip ?_
                show Code.wp _ _ _ _ _
                refine seq ?_
                refine region ?_
                refine sv (yMove h3) ?_
                refine sv (yMove h1) ?_
                refine sdelF (enc := Value.int .i64) (dec := Value.bool) (k := i) hS rfl rfl Tryz.runUnderlying109 keyI3 ?_; clear hS; intro w hS
                rw [tr_del, show (((p.free i).free o).sit ((x.1, x.2, (k : Int)) : Seat) i).fixed = fset p.fixed i true from rfl, fset_fset] at hS
                refine nil ?_
                show Code.wp _ _ _ _ _
                refine seq ?_
                refine region ?_
                refine sv (yMove h0) ?_
                refine sv (yMove h0) ?_
                refine sv (yMove h9) ?_
                refine sv (yMove h10) ?_
                refine sv (yNil rfl) ?_
                refine sv (fa108_3 rfl) ?_
                refine sst hS rfl rfl Tryz.sizeOf105 rfl rfl rfl rfl ?_; clear hS; intro w hS
                refine sv (yNil rfl) ?_
                refine sv (fa108_4 rfl) ?_
                refine sst hS rfl rfl Tryz.sizeOf106 rfl rfl rfl rfl ?_; clear hS; intro w hS
                refine nil ?_
                show Code.wp _ _ _ _ _
                refine seq ?_
                refine region ?_
                refine sv (yAsg rfl) ?_
                refine nil ?_
                show Code.wp _ _ _ _ _
                refine wp_ret (blockR (thenR (thenR (blockR (thenR ?_)))))
                refine retQ (res1 rfl rfl) ?_
                have hfin := (hI.trans (congrArg (fun l => (plT t now).try n i p l) (nums_drop hkr))).trans ((try_set ht hf hoi rfl rfl).trans (if_neg (by rw [c119]; decide)))
                rw [hfin]
                exact ⟨rfl, b17, b18, (hS.sub (.cons_cons _ (.cons_cons _ (.cons _ (.cons_cons _ (.cons _ (.cons _ (List.Sublist.refl _)))))))).rev3⟩
            ·
              exact absurd (of_decide_eq_false c85) (fun h => h hoi)
      ·
        simp only [BS, ne_eq] at c59
        rw [nums_done c59, try_nil] at hI
        refine exit ?_
        show Code.wp _ _ _ _ _
        refine seq ?_
        refine region ?_
        refine sv (yAsg rfl) ?_
        refine nil ?_
        show Code.wp _ _ _ _ _
        refine wp_ret ?_
        refine retQ (res1 rfl rfl) ?_
        rw [hI]
        exact ⟨rfl, mt, ms, hS.sub (.cons _ (.cons _ (.cons _ (List.Sublist.refl _))))⟩
end Go.Proofs.YtmoilbakmlekbaaGreatDoor

