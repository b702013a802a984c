/- Merged texts, part 6. -/
import Derived.Test.YtmoilbakmlekbaaGreatDoorQ5
import Derived.Test.YtmoilbakmlekbaaGreatDoorProg
import Derived.Test.YtmoilbakmlekbaaGreatDoorRows
import Derived.ChangeSame
import Derived.ChangeVars
import Derived.JoinedOf
import Derived.RowKit
import Derived.RowKitTokens
import Derived.LaidLaws
import Derived.LaidHandle
import Derived.Stop.Joined
set_option linter.all false
/- part Aw24 -/
namespace Go.Proofs.YtmoilbakmlekbaaGreatDoor
open Go Bx
set_option maxHeartbeats 2000000 in
/-- barrage/barragelaw11.slots -/
theorem c_slotsL {t : Task} {hv nv fv : Value} {now : Int} {A : List Int} {va : Value} {w0 : World} (hg : Glb w0) (h : RTask w0 [.int .i64 t.polders, hv, nv, fv] t) (hck : (checkA t).2.2 = 0) (hn : 0 ≤ now ∧ now ≤ 200000) (hA : Sl w0 1 RInt va A) (hAm : ∀ i ∈ A, 0 ≤ i ∧ i < t.towns.length) : CV Tryz.prog 27 #[.agg [.int .i64 t.polders, hv, nv, fv].toArray, .int .i64 now, va] w0 (.int .i64 ((plT t now).slots (chL t) A)) := by
  obtain ⟨hv', nv', fv', he0, hpol, hsh, hsn, hsf⟩ := id h
  obtain ⟨rfl, rfl, rfl⟩ : hv' = hv ∧ nv' = nv ∧ fv' = fv := by simpa [eq_comm] using he0
  obtain ⟨a1, cap1, rfl, hcap1, hmx1, hel1⟩ := id hsh
  obtain ⟨a2, cap2, rfl, hcap2, hmx2, hel2⟩ := id hsn
  obtain ⟨a3, cap3, rfl, hcap3, hmx3, hel3⟩ := id hsf
  obtain ⟨av, cv, rfl, hcapv, hmxv, helv⟩ := id hA
  have hok := task_ok hck
  have hn8 := hok.ntw
  have hc4 := hok.nch
  have s1 := hsh
  have s2 := hsn
  refine enter Tryz.func27 rfl Tryz.ntmps27 rfl ?_
  have hS := St.start w0
  refine seq ?_
  refine region ?_
  refine sbox hS rfl rfl ?_; clear hS; intro b3 w hS
  refine sv (yAsg rfl) ?_
  refine nil ?_
  show Code.wp _ _ _ _ _
  refine seq ?_
  refine region ?_
  refine sv (yAsg rfl) ?_
  refine nil ?_
  show Code.wp _ _ _ _ _
  refine seq ?_
  refine seq ?_
  refine region ?_
  refine sv (yAsg rfl) ?_
  refine nil ?_
  show Code.wp _ _ _ _ _
  refine block ?_
  refine loop (fun f w zz => ∃ (c : Nat), f 1 = .int .i64 now ∧ f 2 = .slice av A.length cv ∧ f 3 = .pointer (some ⟨b3, 0, none⟩) ∧ f 7 = .int .i64 (slK t now A c) ∧ f 8 = .int .i64 (c : Int) ∧ StX [] w0 w [blk b3 [.int .i64 t.polders, .slice a1 t.chans.length cap1, .slice a2 t.towns.length cap2, .slice a3 t.floods.length cap3] 26] ∧ (c ≤ t.chans.length) ∧ zz = t.chans.length - c) _ ⟨_, rfl, 0, rfl, rfl, rfl, rfl, rfl, hS, (Nat.zero_le _), rfl⟩ ?_
  clear hS
  rintro f w _ ⟨c, h1, h2, h3, h7, h8, hS, hc, rfl⟩
  refine seq ?_
  refine seq ?_
  refine region ?_
  refine sv (yMove h8) ?_
  refine sv (fa26_1 h3) ?_
  refine sv (yLdB rfl Tryz.isAgg22 (hS.at _) rfl) ?_
  refine sv (yLen rfl Tryz.underlying22) ?_
  refine sv (yLss rfl rfl) ?_
  refine nil ?_
  show Code.wp _ _ _ _ _
  refine cond rfl (fun c19 => ?_) (fun c19 => ?_)
  ·
    simp only [Bool.and_eq_true, Bool.or_eq_true, Bool.and_eq_false_iff, Bool.or_eq_false_iff, decide_eq_true_eq, decide_eq_false_iff_not, Bool.not_eq_true, Bool.not_eq_false, Bool.not_not, Bool.not_eq_eq_eq_not, Bool.not_true, Bool.not_false, Bool.false_eq_true, Bool.true_eq_false, ne_eq, Decidable.not_not, not_false_eq_true, not_true_eq_false] at c19
    have hcl : c < t.chans.length := by omega
    have hcb : 0 ≤ (c : Int) ∧ (c : Int) < t.chans.length := by omega
    have hsb := slK_bd hok hn.1 A c hc
    obtain ⟨bc, oc, csc, hac, hlc, hcsc, hRc, -⟩ := sl_at s1 (chn_i (t := t) hcb)
    obtain ⟨rfl, -⟩ := hRc
    have hco := chan_ok hok hcb
    refine skip ?_
    show Code.wp _ _ _ _ _
    refine seq ?_
    refine block ?_
    refine seq ?_
    refine region ?_
    refine sv (yAsg rfl) ?_
    refine nil ?_
    show Code.wp _ _ _ _ _
    refine seq ?_
    refine seq ?_
    refine region ?_
    refine sv (yAsg rfl) ?_
    refine nil ?_
    show Code.wp _ _ _ _ _
    refine block ?_
    refine loop (fun f w zz => ∃ (k : Nat), f 1 = .int .i64 now ∧ f 2 = .slice av A.length cv ∧ f 3 = .pointer (some ⟨b3, 0, none⟩) ∧ f 7 = .int .i64 (slK t now A c) ∧ f 8 = .int .i64 (c : Int) ∧ f 9 = .int .i64 ((plT t now).cnt (c : Int) (A.take k)) ∧ f 10 = .int .i64 (k : Int) ∧ StX [] w0 w [blk b3 [.int .i64 t.polders, .slice a1 t.chans.length cap1, .slice a2 t.towns.length cap2, .slice a3 t.floods.length cap3] 26] ∧ (k ≤ A.length) ∧ zz = A.length - k) _ ⟨_, rfl, 0, h1, h2, h3, h7, h8, rfl, rfl, hS, (Nat.zero_le _), rfl⟩ ?_
    clear hS
    rintro f w _ ⟨k, h1, h2, h3, h7, h8, h9, h10, hS, hk, rfl⟩
    refine seq ?_
    refine seq ?_
    refine region ?_
    refine sv (yMove h10) ?_
    refine sv (yMove h2) ?_
    refine sv (yLen rfl Tryz.underlying34) ?_
    refine sv (yLss rfl rfl) ?_
    refine nil ?_
    show Code.wp _ _ _ _ _
    refine cond rfl (fun c25 => ?_) (fun c25 => ?_)
    ·
      simp only [Bool.and_eq_true, Bool.or_eq_true, Bool.and_eq_false_iff, Bool.or_eq_false_iff, decide_eq_true_eq, decide_eq_false_iff_not, Bool.not_eq_true, Bool.not_eq_false, Bool.not_not, Bool.not_eq_eq_eq_not, Bool.not_true, Bool.not_false, Bool.false_eq_true, Bool.true_eq_false, ne_eq, Decidable.not_not, not_false_eq_true, not_true_eq_false] at c25
      obtain ⟨i, hxv, hdv⟩ := drop_of (l := A) (k := k) (by omega)
      obtain ⟨bv, ov, csv, hav, hlenv, hcsv, hRv⟩ := helv (k) (by omega)
      obtain rfl : i = A[k] := (List.getElem?_eq_some_iff.1 hxv).2.symm
      generalize A[k] = i at hxv hdv hRv
      obtain ⟨rfl, hiI⟩ := hRv
      have hib := hAm i (List.mem_of_getElem? hxv)
      obtain ⟨bt, ot, cst, hat, hlt, hcst, hRt, -⟩ := sl_at s2 (twn_i (t := t) hib)
      obtain ⟨dvt, rfl, -, -, -, -, hslt, -⟩ := hRt
      have hto := town_ok hok hib
      have htl := hto.lead
      have hab := arr_bd hok hib
      have hcn := cnt_bd (plT_late t hn.1) (c : Int) (A.take k)
      have hdel := hco.1
      refine skip ?_
      show Code.wp _ _ _ _ _
      refine seq ?_
      refine block ?_
      refine seq ?_
      refine seq ?_
      refine region_draw mixed (by kernel_rfl) hS ?_
      refine qv (fun w hS => (yMove h2)) ?_
      refine qv (fun w hS => (yMove h10)) ?_
      refine qv (fun w hS => (yIxa rfl hav rfl Tryz.runUnderlying34 Tryz.sizeOf3 (by omega) (by omega))) ?_
      refine qv (fun w hS => (yLd rfl Tryz.isAgg3 ((hcsv.ext hS.ext).one))) ?_
      refine qv (fun w hS => (yLss rfl rfl)) ?_
      refine qv (fun w hS => (yMove rfl)) ?_
      refine qg rfl rfl rfl (fun g w hS => (yMove h2)) (fun v34 g34 => ?_)
      refine qg rfl rfl rfl (fun g w hS => (yMove h10)) (fun v35 g35 => ?_)
      refine qg rfl rfl rfl (fun g w hS => (yIxa (g34.1 g) hav (g35.1 g) Tryz.runUnderlying34 Tryz.sizeOf3 (by omega) (by omega))) (fun v36 g36 => ?_)
      refine qg rfl rfl rfl (fun g w hS => (yLd (g36.1 g) Tryz.isAgg3 ((hcsv.ext hS.ext).one))) (fun v37 g37 => ?_)
      refine qg rfl rfl rfl (fun g w hS => (fa26_2 h3)) (fun v38 g38 => ?_)
      refine qg rfl rfl rfl (fun g w hS => (yLdB (g38.1 g) Tryz.isAgg23 (hS.at _) rfl)) (fun v39 g39 => ?_)
      refine qg rfl rfl rfl (fun g w hS => (yLen (g39.1 g) Tryz.underlying23)) (fun v40 g40 => ?_)
      refine qg rfl rfl rfl (fun g w hS => (yGeq (g37.1 g) (g40.1 g))) (fun v41 g41 => ?_)
      refine qv (fun w hS => (yOr rfl rfl (fun hB => (g41.1 hB)))) ?_
      refine qv (fun w hS => (yMove rfl)) ?_
      refine qg rfl rfl rfl (fun g w hS => (fa26_2 h3)) (fun v44 g44 => ?_)
      refine qg rfl rfl rfl (fun g w hS => (yLdB (g44.1 g) Tryz.isAgg23 (hS.at _) rfl)) (fun v45 g45 => ?_)
      refine qg rfl rfl rfl (fun g w hS => (yMove h2)) (fun v46 g46 => ?_)
      refine qg rfl rfl rfl (fun g w hS => (yMove h10)) (fun v47 g47 => ?_)
      refine qg rfl rfl rfl (fun g w hS => (yIxa (g46.1 g) hav (g47.1 g) Tryz.runUnderlying34 Tryz.sizeOf3 (by omega) (by omega))) (fun v48 g48 => ?_)
      refine qg rfl rfl rfl (fun g w hS => (yLd (g48.1 g) Tryz.isAgg3 ((hcsv.ext hS.ext).one))) (fun v49 g49 => ?_)
      refine qg rfl rfl rfl (fun g w hS => (yIxa (g45.1 g) hat (g49.1 g) Tryz.runUnderlying23 Tryz.sizeOf36 (by omega) (by omega))) (fun v50 g50 => ?_)
      refine qg rfl rfl rfl (fun g w hS => (fa36_4 (g50.1 g))) (fun v51 g51 => ?_)
      refine qg rfl rfl rfl (fun g w hS => (yLd (g51.1 g) Tryz.isAgg34 ((hcst.ext hS.ext).at (j := 4) rfl))) (fun v52 g52 => ?_)
      refine qg rfl rfl rfl (fun g w hS => (yMove h8)) (fun v53 g53 => ?_)
      refine qgc rfl rfl rfl Tryz.call21 (fun g => (.cons (g52.1 g) (.cons (g53.1 g) .nil))) (fun g w hS => (c_has (hslt.ext RInt.stays hS.ext))) (fun v54 g54 => ?_)
      refine qg rfl rfl rfl (fun g w hS => (yNot (g54.1 g))) (fun v55 g55 => ?_)
      refine qv (fun w hS => (yOr rfl rfl (fun hB => (g55.1 hB)))) ?_
      clear hS; refine qnil (fun w hS => ?_)
      show Code.wp _ _ _ _ _
      refine cond rfl (fun c56 => ?_) (fun c56 => ?_)
      ·
        have hout : ¬ (c : Int) ∈ (plT t now).chans i := fun hm => by
          have hb : ((decide (i < 0) || decide ((t.towns.length : Int) ≤ i)) || !decide ((c : Int) ∈ (twn t i).chans)) = true := c56
          rw [decide_eq_false (show ¬ i < 0 by omega), decide_eq_false (show ¬ (t.towns.length : Int) ≤ i by omega), decide_eq_true (show (c : Int) ∈ (twn t i).chans from hm)] at hb
          cases hb
        refine exit ?_
        show Code.wp _ _ _ _ _
        refine region ?_
        refine sv (yMove h10) ?_
        refine sv (yAdd rfl rfl ⟨by omega, by omega⟩) ?_
        refine sv (yAsg rfl) ?_
        refine nil ?_
        exact ⟨_, _, rfl, ⟨k + 1, h1, h2, h3, h7, h8, (h9.trans (congrArg (Value.int .i64) (by rw [take_snoc hxv, cnt_snoc, if_neg hout]))), rfl, hS, (by omega), rfl⟩, by omega⟩
      ·
        have hin : (c : Int) ∈ (plT t now).chans i := by
          have hb : ((decide (i < 0) || decide ((t.towns.length : Int) ≤ i)) || !decide ((c : Int) ∈ (twn t i).chans)) = false := c56
          rw [Bool.or_eq_false_iff] at hb
          have h2 := hb.2
          exact (show (c : Int) ∈ (twn t i).chans by simpa using h2)
        have hlt : max ((plT t now).cnt (c : Int) (A.take k)) ((plT t now).latest i (c : Int) - (plT t now).now + 1) = max ((plT t now).cnt (c : Int) (A.take k)) (min 200000 ((arr t i).1.lo - (twn t i).lead - (chn t (c : Int)).delay) - now + 1) := rfl
        refine skip ?_
        show Code.wp _ _ _ _ _
        refine seqJ (n := 104) (fun f w => ∃ (b11 : Nat), f 1 = .int .i64 now ∧ f 2 = .slice av A.length cv ∧ f 3 = .pointer (some ⟨b3, 0, none⟩) ∧ f 7 = .int .i64 (slK t now A c) ∧ f 8 = .int .i64 (c : Int) ∧ f 9 = .int .i64 ((plT t now).cnt (c : Int) (A.take k)) ∧ f 10 = .int .i64 (k : Int) ∧ f 11 = .pointer (some ⟨b11, 0, none⟩) ∧ StX [] w0 w [blk b11 [.int .i64 (arr t i).1.lo, .int .i64 (arr t i).1.hi] 44, blk b3 [.int .i64 t.polders, .slice a1 t.chans.length cap1, .slice a2 t.towns.length cap2, .slice a3 t.floods.length cap3] 26] ∧ True) ?_ ?_
        ·
          refine region_mix (fun w => StX [] w0 w [blk b3 [.int .i64 t.polders, .slice a1 t.chans.length cap1, .slice a2 t.towns.length cap2, .slice a3 t.floods.length cap3] 26]) 14 mixed hS ?_
          clear hS; intro w hS
          refine f_step 0 (by kernel_rfl) rfl (fun c a a' w h => by obtain ⟨_, v, hv, _⟩ := h; cases hv) (by first | exact hS | exact hS.sub (.cons _ (List.Sublist.refl _))) (fun w hS => (yLdBA h3 Tryz.isAgg26 Tryz.sizeOf26 (hS.at _) rfl rfl)) ?_
          refine f_step 1 (by kernel_rfl) rfl (fun c a a' w h => by obtain ⟨_, v, hv, _⟩ := h; cases hv) (by first | exact hS | exact hS.sub (.cons _ (List.Sublist.refl _))) (fun w hS => (yMove h2)) ?_
          refine f_step 2 (by kernel_rfl) rfl (fun c a a' w h => by obtain ⟨_, v, hv, _⟩ := h; cases hv) (by first | exact hS | exact hS.sub (.cons _ (List.Sublist.refl _))) (fun w hS => (yMove h10)) ?_
          refine f_step 3 (by kernel_rfl) rfl (fun c a a' w h => by obtain ⟨_, v, hv, _⟩ := h; cases hv) (by first | exact hS | exact hS.sub (.cons _ (List.Sublist.refl _))) (fun w hS => (yIxa rfl hav rfl Tryz.runUnderlying34 Tryz.sizeOf3 (by omega) (by omega))) ?_
          refine f_step 4 (by kernel_rfl) rfl (fun c a a' w h => by obtain ⟨_, v, hv, _⟩ := h; cases hv) (by first | exact hS | exact hS.sub (.cons _ (List.Sublist.refl _))) (fun w hS => (yLd rfl Tryz.isAgg3 ((hcsv.ext hS.ext).one))) ?_
          show wpA _ _ _ _ _ _ _ _ _ _
          refine a_step (i := 5) (is := [10]) (by kernel_rfl) ⟨?_, ?_, trivial⟩
          ·
            refine ⟨_, rfl, ?_⟩
            refine scall Tryz.call23 (.cons rfl (.cons rfl .nil)) (c_Arrival (hg.ext hS.ext) (h.ext hS.ext)) ?_
            rw [arrR_of hck hib]
            rintro _ w ⟨rfl, hE⟩; replace hS := hS.step hE; clear hE
            refine nil ?_
            refine ⟨fun _ => (by first | exact hS | exact hS.sub (.cons _ (List.Sublist.refl _))), ?_⟩
            show wpA _ _ _ _ _ _ _ _ _ _
            refine f_step 6 (by kernel_rfl) rfl (fun c a a' w h => by obtain ⟨_, v, hv, _⟩ := h; cases hv) (by first | exact hS | exact hS.sub (.cons _ (List.Sublist.refl _))) (fun w hS => (yMove rfl)) ?_
            refine f_step 7 (by kernel_rfl) rfl (fun c a a' w h => by obtain ⟨_, v, hv, _⟩ := h; cases hv) (by first | exact hS | exact hS.sub (.cons _ (List.Sublist.refl _))) (fun w hS => (yExt rfl rfl)) ?_
            refine f_step 8 (by kernel_rfl) rfl (fun c a a' w h => by obtain ⟨_, v, hv, _⟩ := h; cases hv) (by first | exact hS | exact hS.sub (.cons _ (List.Sublist.refl _))) (fun w hS => (yExt rfl rfl)) ?_
            refine f_step 9 (by kernel_rfl) rfl (fun c a a' w h => by obtain ⟨_, v, hv, _⟩ := h; cases hv) (by first | exact hS | exact hS.sub (.cons _ (List.Sublist.refl _))) (fun w hS => (yExt rfl rfl)) ?_
            show wpA _ _ _ _ _ _ _ _ _ _
            refine a_step (i := 10) (is := []) (by kernel_rfl) ⟨?_, trivial⟩
            refine ⟨_, rfl, ?_⟩
            refine salloc hS Tryz.zeroValue44 rfl ?_; clear hS; intro b11 w hS
            refine nil ?_
            refine ⟨fun _ => (by first | exact hS | exact hS.sub (.cons _ (List.Sublist.refl _))), ?_⟩
            show wpA _ _ _ _ _ _ _ _ _ _
            show wpA _ _ _ _ _ _ _ _ _ _
            refine a_step (i := 11) (is := []) (by kernel_rfl) ⟨?_, trivial⟩
            refine ⟨_, rfl, ?_⟩
            refine sst hS rfl rfl Tryz.sizeOf44 rfl rfl rfl rfl ?_; clear hS; intro w hS
            refine nil ?_
            refine ⟨fun _ => (by first | exact hS | exact hS.sub (.cons _ (List.Sublist.refl _))), ?_⟩
            show wpA _ _ _ _ _ _ _ _ _ _
            refine f_step 12 (by kernel_rfl) rfl (fun c a a' w h => by obtain ⟨_, v, hv, _⟩ := h; cases hv) (by first | exact hS | exact hS.sub (.cons _ (List.Sublist.refl _))) (fun w hS => (yAsg rfl)) ?_
            refine f_step 13 (by kernel_rfl) rfl (fun c a a' w h => by obtain ⟨_, v, hv, _⟩ := h; cases hv) (by first | exact hS | exact hS.sub (.cons _ (List.Sublist.refl _))) (fun w hS => (yAsg rfl)) ?_
            refine a_end (by kernel_rfl) ?_
            exact ⟨_, rfl, b11, h1, h2, h3, h7, h8, h9, h10, rfl, hS, trivial⟩
          ·
            refine ⟨_, rfl, ?_⟩
            refine salloc hS Tryz.zeroValue44 rfl ?_; clear hS; intro b11 w hS
            refine nil ?_
            refine ⟨fun _ => (by first | exact hS | exact hS.sub (.cons _ (List.Sublist.refl _))), ?_⟩
            show wpA _ _ _ _ _ _ _ _ _ _
            show wpA _ _ _ _ _ _ _ _ _ _
            refine a_step (i := 5) (is := []) (by kernel_rfl) ⟨?_, trivial⟩
            refine ⟨_, rfl, ?_⟩
            refine scall Tryz.call23 (.cons rfl (.cons rfl .nil)) (c_Arrival (hg.ext hS.ext) (h.ext hS.ext)) ?_
            rw [arrR_of hck hib]
            rintro _ w ⟨rfl, hE⟩; replace hS := hS.step hE; clear hE
            refine nil ?_
            refine ⟨fun _ => (by first | exact hS | exact hS.sub (.cons _ (List.Sublist.refl _))), ?_⟩
            show wpA _ _ _ _ _ _ _ _ _ _
            refine f_step 6 (by kernel_rfl) rfl (fun c a a' w h => by obtain ⟨_, v, hv, _⟩ := h; cases hv) (by first | exact hS | exact hS.sub (.cons _ (List.Sublist.refl _))) (fun w hS => (yMove rfl)) ?_
            refine f_step 7 (by kernel_rfl) rfl (fun c a a' w h => by obtain ⟨_, v, hv, _⟩ := h; cases hv) (by first | exact hS | exact hS.sub (.cons _ (List.Sublist.refl _))) (fun w hS => (yExt rfl rfl)) ?_
            refine f_step 8 (by kernel_rfl) rfl (fun c a a' w h => by obtain ⟨_, v, hv, _⟩ := h; cases hv) (by first | exact hS | exact hS.sub (.cons _ (List.Sublist.refl _))) (fun w hS => (yExt rfl rfl)) ?_
            refine f_step 9 (by kernel_rfl) rfl (fun c a a' w h => by obtain ⟨_, v, hv, _⟩ := h; cases hv) (by first | exact hS | exact hS.sub (.cons _ (List.Sublist.refl _))) (fun w hS => (yExt rfl rfl)) ?_
            show wpA _ _ _ _ _ _ _ _ _ _
            refine a_step (i := 11) (is := []) (by kernel_rfl) ⟨?_, trivial⟩
            refine ⟨_, rfl, ?_⟩
            refine sst hS rfl rfl Tryz.sizeOf44 rfl rfl rfl rfl ?_; clear hS; intro w hS
            refine nil ?_
            refine ⟨fun _ => (by first | exact hS | exact hS.sub (.cons _ (List.Sublist.refl _))), ?_⟩
            show wpA _ _ _ _ _ _ _ _ _ _
            refine f_step 12 (by kernel_rfl) rfl (fun c a a' w h => by obtain ⟨_, v, hv, _⟩ := h; cases hv) (by first | exact hS | exact hS.sub (.cons _ (List.Sublist.refl _))) (fun w hS => (yAsg rfl)) ?_
            refine f_step 13 (by kernel_rfl) rfl (fun c a a' w h => by obtain ⟨_, v, hv, _⟩ := h; cases hv) (by first | exact hS | exact hS.sub (.cons _ (List.Sublist.refl _))) (fun w hS => (yAsg rfl)) ?_
            refine a_end (by kernel_rfl) ?_
            exact ⟨_, rfl, b11, h1, h2, h3, h7, h8, h9, h10, rfl, hS, trivial⟩
        ·
          clear hS; rintro f w ⟨b11, h1, h2, h3, h7, h8, h9, h10, h11, hS, -⟩
          refine seq ?_
          refine region_draw mixed (by kernel_rfl) hS ?_
          refine qv (fun w hS => (fa44_0 h11)) ?_
          refine qv (fun w hS => (yLdB rfl Tryz.isAgg3 (hS.at _) rfl)) ?_
          refine qv (fun w hS => (fa26_2 h3)) ?_
          refine qv (fun w hS => (yLdB rfl Tryz.isAgg23 (hS.at _) rfl)) ?_
          refine qv (fun w hS => (yMove h2)) ?_
          refine qv (fun w hS => (yMove h10)) ?_
          refine qv (fun w hS => (yIxa rfl hav rfl Tryz.runUnderlying34 Tryz.sizeOf3 (by omega) (by omega))) ?_
          refine qv (fun w hS => (yLd rfl Tryz.isAgg3 ((hcsv.ext hS.ext).one))) ?_
          refine qv (fun w hS => (yIxa rfl hat rfl Tryz.runUnderlying23 Tryz.sizeOf36 (by omega) (by omega))) ?_
          refine qv (fun w hS => (fa36_3 rfl)) ?_
          refine qv (fun w hS => (yLd rfl Tryz.isAgg3 ((hcst.ext hS.ext).at (j := 3) rfl))) ?_
          refine qv (fun w hS => (ySub rfl rfl ⟨by omega, by omega⟩)) ?_
          refine qv (fun w hS => (fa26_1 h3)) ?_
          refine qv (fun w hS => (yLdB rfl Tryz.isAgg22 (hS.at _) rfl)) ?_
          refine qv (fun w hS => (yMove h8)) ?_
          refine qv (fun w hS => (yIxa rfl hac rfl Tryz.runUnderlying22 Tryz.sizeOf41 (by omega) (by omega))) ?_
          refine qv (fun w hS => (fa41_1 rfl)) ?_
          refine qv (fun w hS => (yLd rfl Tryz.isAgg3 ((hcsc.ext hS.ext).at (j := 1) rfl))) ?_
          refine qv (fun w hS => (ySub rfl rfl ⟨by omega, by omega⟩)) ?_
          refine qv (fun w hS => (yMin rfl rfl)) ?_
          refine qv (fun w hS => (yAsg rfl)) ?_
          clear hS; refine qnil (fun w hS => ?_)
          show Code.wp _ _ _ _ _
          refine region ?_
          refine sv (yMove h9) ?_
          refine sv (yMove rfl) ?_
          refine sv (yMove h1) ?_
          refine sv (ySub rfl rfl ⟨by omega, by omega⟩) ?_
          refine sv (yAdd rfl rfl ⟨by omega, by omega⟩) ?_
          refine sv (yMax rfl rfl) ?_
          refine sv (yAsg rfl) ?_
          refine nil ?_
          show Code.wp _ _ _ _ _
          refine region ?_
          refine sv (yMove h10) ?_
          refine sv (yAdd rfl rfl ⟨by omega, by omega⟩) ?_
          refine sv (yAsg rfl) ?_
          refine nil ?_
          exact ⟨_, _, rfl, ⟨k + 1, h1, h2, h3, h7, h8, (rfl.trans (congrArg (Value.int .i64) (by rw [take_snoc hxv, cnt_snoc, if_pos hin, hlt]))), rfl, (hS.sub (.cons _ (List.Sublist.refl _))), (by omega), rfl⟩, by omega⟩
    ·
      simp only [Bool.and_eq_true, Bool.or_eq_true, Bool.and_eq_false_iff, Bool.or_eq_false_iff, decide_eq_true_eq, decide_eq_false_iff_not, Bool.not_eq_true, Bool.not_eq_false, Bool.not_not, Bool.not_eq_eq_eq_not, Bool.not_true, Bool.not_false, Bool.false_eq_true, Bool.true_eq_false, ne_eq, Decidable.not_not, not_false_eq_true, not_true_eq_false] at c25
      obtain rfl : k = A.length := by omega
      rw [List.take_length] at h9
      have hcn := cnt_bd (plT_late t hn.1) (c : Int) A
      have hpr := prod_bd hcn hco.2
      refine exit ?_
      show Code.wp _ _ _ _ _
      refine region ?_
      refine sv (yMove h7) ?_
      refine sv (yMove h9) ?_
      refine sv (fa26_1 h3) ?_
      refine sv (yLdB rfl Tryz.isAgg22 (hS.at _) rfl) ?_
      refine sv (yMove h8) ?_
      refine sv (yIxa rfl hac rfl Tryz.runUnderlying22 Tryz.sizeOf41 (by omega) (by omega)) ?_
      refine sv (fa41_2 rfl) ?_
      refine sv (yLd rfl Tryz.isAgg3 ((hcsc.ext hS.ext).at (j := 2) rfl)) ?_
      refine sv (yMul rfl rfl ⟨by omega, by omega⟩) ?_
      refine sv (yAdd rfl rfl ⟨by omega, by omega⟩) ?_
      refine sv (yAsg rfl) ?_
      refine nil ?_
      show Code.wp _ _ _ _ _
      refine region ?_
      refine sv (yMove h8) ?_
      refine sv (yAdd rfl rfl ⟨by omega, by omega⟩) ?_
      refine sv (yAsg rfl) ?_
      refine nil ?_
      exact ⟨_, _, rfl, ⟨c + 1, h1, h2, h3, (rfl.trans (congrArg (Value.int .i64) (slK_succ now A hcl).symm)), rfl, hS, (by omega), rfl⟩, by omega⟩
  ·
    simp only [Bool.and_eq_true, Bool.or_eq_true, Bool.and_eq_false_iff, Bool.or_eq_false_iff, decide_eq_true_eq, decide_eq_false_iff_not, Bool.not_eq_true, Bool.not_eq_false, Bool.not_not, Bool.not_eq_eq_eq_not, Bool.not_true, Bool.not_false, Bool.false_eq_true, Bool.true_eq_false, ne_eq, Decidable.not_not, not_false_eq_true, not_true_eq_false] at c19
    obtain rfl : c = t.chans.length := by omega
    refine exit ?_
    show Code.wp _ _ _ _ _
    refine seq ?_
    refine region ?_
    refine sv (yMove h7) ?_
    refine sv (yAsg rfl) ?_
    refine nil ?_
    show Code.wp _ _ _ _ _
    refine wp_ret ?_
    exact retV (res1 rfl (eqI (slK_end t now A).symm)) hS.ext
end Go.Proofs.YtmoilbakmlekbaaGreatDoor
/- part A21 -/
namespace Bx
open Go Go.RowKit
section
variable {P : Program} {ρ : Operand → Value} {w : World} {ty : TypeId}
theorem yShrI {x y : Operand} {a k : Int} {t t' : TypeId} (hx : ρ x = .int .i64 a) (hy : ρ y = .int .i64 k) (h0 : 0 ≤ k) (h8 : k < 64) : Y P ρ (.binOp .shr t x y t') ty w (.int .i64 (a / 2 ^ k.toNat)) w := by
  have h1 : ¬ k < 0 := by omega
  have h2 : min k.toNat 64 = k.toNat := by omega
  simp [Y, xop, execOp, hx, hy, eqGuard, binOp, Op.shift, IntKind.bits, Int.fdiv_eq_ediv, h1, h2]
end
def hallB (t : Task) (tw i : Int) : Bool := ((true && decide (0 < (arr t i).2)) && decide (i < 8)) && decide (tw / 2 ^ i.toNat % 2 = 1)
def hallK (t : Task) (tw : Int) (k : Nat) : List Int := ((idxL t).take k).filter (hallB t tw)
theorem hallK_len (t : Task) (tw : Int) (k : Nat) : (hallK t tw k).length ≤ k := Nat.le_trans (List.length_filter_le _ _) (by simp; omega)
theorem hallK_sub (t : Task) (tw : Int) : (hallK t tw t.towns.length).Sublist (wetL t) := by
  unfold hallK wetL
  rw [← idxL_len, List.take_length]
  have h : ∀ l : List Int, (l.filter (hallB t tw)).Sublist (l.filter fun i => decide (0 < (arr t i).2)) := fun l => by
    have e : l.filter (hallB t tw) = (l.filter fun i => decide (0 < (arr t i).2)).filter (hallB t tw) := by
      rw [List.filter_filter]
      congr 1
      funext i
      unfold hallB
      cases decide (0 < (arr t i).2) <;> simp
    rw [e]
    exact List.filter_sublist
  exact h _
theorem chL_nod (t : Task) : (chL t).Nodup := by
  unfold chL
  exact List.pairwise_map.2 ((List.nodup_range (n := t.chans.length)).imp fun h e => h (Int.ofNat.inj e))
theorem wetL_nod (t : Task) : (wetL t).Nodup := (wetL_asc t).imp fun h => by omega
theorem chL_mem {t : Task} (ht : TaskOk t) : ∀ i, ∀ c ∈ (twn t i).chans, c ∈ chL t := fun i c hc => by
  have h := chan_mem ht hc
  exact List.mem_map.2 ⟨c.toNat, List.mem_range.2 (by omega), by show ((c.toNat : Nat) : Int) = c; omega⟩
theorem hall_law {t : Task} {now : Int} {A : List Int} (hck : (checkA t).2.2 = 0) (hn : 0 ≤ now ∧ now ≤ 200000) (hA : A.Sublist (wetL t)) : (A.length : Int) ≤ (plT t now).slots (chL t) A ∨ (planR t now).2 = 9 := by
  have hok := task_ok hck
  by_cases h : (A.length : Int) ≤ (plT t now).slots (chL t) A
  · exact .inl h
  · have hp : (plT t now).plan (fuelT t) = none := blk_none (chL_nod t) (wetL_nod t) (chL_mem hok) (fun c => (room_le hok c).1) (fuel_UU hok now) ((wetL_nod t).sublist hA) (fun a ha => hA.subset ha) (by unfold Pl.blk; omega)
    refine .inr ?_
    unfold planR planA
    rw [hp, if_neg]
    unfold atE
    rw [if_neg (fun h' => h' hck), if_neg (by rw [outB_false.2 hn]; decide)]
    simp
theorem hall_bool {a b : Int} {p : Int} (h : a ≤ b ∨ p = 9) : ((decide (a ≤ b) || decide (p = 9)) && true) = true := by
  rcases h with h | h <;> simp [h]
end Bx
/- part Aw25 -/
namespace Go.Proofs.YtmoilbakmlekbaaGreatDoor
open Go Bx
set_option maxHeartbeats 2000000 in
/-- barrage/barragelaw11.AlarmHall -/
theorem w_AlarmHall {t : Task} {cs : List Value} {now tw : Int} {w0 : World} (hg : Glb w0) (h : RTask w0 cs t) (_ : I64 now) (htw : 0 ≤ tw ∧ tw ≤ 255) : CV Tryz.prog 5 #[.agg cs.toArray, .int .i64 now, .int .u8 tw] w0 (.bool true) := by
  obtain ⟨hv, nv, fv, rfl, hpol, hsh, hsn, hsf⟩ := id h
  obtain ⟨a1, cap1, rfl, hcap1, hmx1, hel1⟩ := id hsh
  obtain ⟨a2, cap2, rfl, hcap2, hmx2, hel2⟩ := id hsn
  obtain ⟨a3, cap3, rfl, hcap3, hmx3, hel3⟩ := id hsf
  refine enter Tryz.func5 rfl Tryz.ntmps5 rfl ?_
  have hS := St.start w0
  refine seq ?_
  refine region ?_
  refine sbox hS rfl rfl ?_; clear hS; intro b3 w hS
  refine sv (yAsg rfl) ?_
  refine nil ?_
  show Code.wp _ _ _ _ _
  refine seq ?_
  refine region ?_
  refine sv (yLdBA rfl Tryz.isAgg26 Tryz.sizeOf26 (hS.at _) rfl rfl) ?_
  refine sv (yMove rfl) ?_
  refine scall Tryz.call18 (.cons rfl (.cons rfl .nil)) (c_Plan (hg.ext hS.ext) (h.ext hS.ext)) ?_
  rintro _ w ⟨pv, rfl, hM⟩; replace hS := hS.step hM.ext; clear hM
  refine sv (yMove rfl) ?_
  refine sv (yExt rfl rfl) ?_
  refine sv (yExt rfl rfl) ?_
  refine sv (yAsg rfl) ?_
  refine sv (yAsg rfl) ?_
  refine nil ?_
  show Code.wp _ _ _ _ _
  refine seq ?_
  refine region ?_
  refine sv (yLdBA rfl Tryz.isAgg26 Tryz.sizeOf26 (hS.at _) rfl rfl) ?_
  refine scall Tryz.call19 (.cons rfl .nil) (c_CheckA (hg.ext hS.ext) (h.ext hS.ext)) ?_
  rintro _ w ⟨rfl, hE⟩; replace hS := hS.step hE; clear hE
  refine sv (yMove rfl) ?_
  refine sv (yExt rfl rfl) ?_
  refine sv (yExt rfl rfl) ?_
  refine sv (yExt rfl rfl) ?_
  refine sv (yAsg rfl) ?_
  refine sv (yAsg rfl) ?_
  refine sv (yAsg rfl) ?_
  refine nil ?_
  show Code.wp _ _ _ _ _
  refine seq ?_
  refine seq ?_
  refine region ?_
  refine sv (yMove rfl) ?_
  refine sv (yNeq rfl rfl) ?_
  refine sv (yMove rfl) ?_
  refine sg rfl rfl rfl (fun g => (yMove rfl)) (fun v32 g32 => ?_)
  refine sg rfl rfl rfl (fun g => (yLss (g32.1 g) rfl)) (fun v33 g33 => ?_)
  refine sv (yOr rfl rfl (fun hB => (g33.1 hB))) ?_
  refine sv (yMove rfl) ?_
  refine sg rfl rfl rfl (fun g => (yMove rfl)) (fun v36 g36 => ?_)
  refine sg rfl rfl rfl (fun g => (yGtr (g36.1 g) rfl)) (fun v37 g37 => ?_)
  refine sv (yOr rfl rfl (fun hB => (g37.1 hB))) ?_
  refine nil ?_
  show Code.wp _ _ _ _ _
  refine cond rfl (fun c38 => ?_) (fun c38 => ?_)
  ·
    simp only [Bool.and_eq_true, Bool.or_eq_true, Bool.and_eq_false_iff, Bool.or_eq_false_iff, decide_eq_true_eq, decide_eq_false_iff_not, Bool.not_eq_true, Bool.not_eq_false, Bool.not_not, Bool.not_eq_eq_eq_not, Bool.not_true, Bool.not_false, Bool.false_eq_true, Bool.true_eq_false, ne_eq, Decidable.not_not, not_false_eq_true, not_true_eq_false] at c38
    refine seq ?_
    refine region ?_
    refine scall Tryz.call20 .nil (c_Awake (hg.ext hS.ext)) ?_
    rintro _ w ⟨rfl, hE⟩; replace hS := hS.step hE; clear hE
    refine sv (yAsg rfl) ?_
    refine nil ?_
    show Code.wp _ _ _ _ _
    refine wp_ret (thenR ?_)
    exact retV (res1 rfl rfl) hS.ext
  ·
    simp only [Bool.and_eq_true, Bool.or_eq_true, Bool.and_eq_false_iff, Bool.or_eq_false_iff, decide_eq_true_eq, decide_eq_false_iff_not, Bool.not_eq_true, Bool.not_eq_false, Bool.not_not, Bool.not_eq_eq_eq_not, Bool.not_true, Bool.not_false, Bool.false_eq_true, Bool.true_eq_false, ne_eq, Decidable.not_not, not_false_eq_true, not_true_eq_false] at c38
    have hck : (checkA t).2.2 = 0 := by omega
    have hn : 0 ≤ now ∧ now ≤ 200000 := by omega
    have hok := task_ok hck
    have hn8 := hok.ntw
    refine skip ?_
    show Code.wp _ _ _ _ _
    refine seq ?_
    refine region ?_
    refine sv (yAsg rfl) ?_
    refine nil ?_
    show Code.wp _ _ _ _ _
    refine seq ?_
    refine seq ?_
    refine region ?_
    refine sv (yAsg rfl) ?_
    refine nil ?_
    show Code.wp _ _ _ _ _
    refine block ?_
    refine loop (fun f w zz => ∃ (k : Nat) (v : Value), f 1 = .int .i64 now ∧ f 2 = .int .u8 tw ∧ f 3 = .pointer (some ⟨b3, 0, none⟩) ∧ f 8 = .int .i64 (planR t now).2 ∧ f 12 = v ∧ f 13 = .int .i64 (k : Int) ∧ StX [] w0 w [rowI v 3 1 (hallK t tw k).length ((hallK t tw k).flatMap Bx.encI), blk b3 [.int .i64 t.polders, .slice a1 t.chans.length cap1, .slice a2 t.towns.length cap2, .slice a3 t.floods.length cap3] 26] ∧ (k ≤ t.towns.length) ∧ zz = t.towns.length - k) _ ⟨_, rfl, 0, _, rfl, rfl, rfl, rfl, rfl, rfl, (hS.nilrow 3 1), (Nat.zero_le _), rfl⟩ ?_
    clear hS
    rintro f w _ ⟨k, v, h1, h2, h3, h8, h12, h13, hS, hk, rfl⟩
    refine seq ?_
    refine seq ?_
    refine region ?_
    refine sv (yMove h13) ?_
    refine sv (fa26_2 h3) ?_
    refine sv (yLdB rfl Tryz.isAgg23 (hS.at _) rfl) ?_
    refine sv (yLen rfl Tryz.underlying23) ?_
    refine sv (yLss rfl rfl) ?_
    refine nil ?_
    show Code.wp _ _ _ _ _
    refine cond rfl (fun c44 => ?_) (fun c44 => ?_)
    ·
      simp only [Bool.and_eq_true, Bool.or_eq_true, Bool.and_eq_false_iff, Bool.or_eq_false_iff, decide_eq_true_eq, decide_eq_false_iff_not, Bool.not_eq_true, Bool.not_eq_false, Bool.not_not, Bool.not_eq_eq_eq_not, Bool.not_true, Bool.not_false, Bool.false_eq_true, Bool.true_eq_false, ne_eq, Decidable.not_not, not_false_eq_true, not_true_eq_false] at c44
      have hkn : k < t.towns.length := by omega
      have hib : 0 ≤ (k : Int) ∧ (k : Int) < t.towns.length := by omega
      have hkl := hallK_len t tw k
      obtain ⟨e0, hz0, ha0⟩ : ∃ e0 : Int, e0 = 0 ∧ arrR t (k : Int) = (arr t (k : Int), e0) := ⟨0, rfl, arrR_of hck hib⟩
      have hpw : 0 ≤ tw / 2 ^ (k : Int).toNat := Int.ediv_nonneg htw.1 (Int.pow_nonneg (by decide))
      refine skip ?_
      show Code.wp _ _ _ _ _
      refine seq ?_
      refine block ?_
      refine seqJ (n := 90) (fun f w => ∃ (b14 : Nat), f 1 = .int .i64 now ∧ f 2 = .int .u8 tw ∧ f 3 = .pointer (some ⟨b3, 0, none⟩) ∧ f 8 = .int .i64 (planR t now).2 ∧ f 12 = v ∧ f 13 = .int .i64 (k : Int) ∧ f 15 = .int .i64 (arr t (k : Int)).2 ∧ f 16 = .int .i64 e0 ∧ StX [] w0 w [blk b14 [.int .i64 (arr t (k : Int)).1.lo, .int .i64 (arr t (k : Int)).1.hi] 44, rowI v 3 1 (hallK t tw k).length ((hallK t tw k).flatMap Bx.encI), blk b3 [.int .i64 t.polders, .slice a1 t.chans.length cap1, .slice a2 t.towns.length cap2, .slice a3 t.floods.length cap3] 26] ∧ True) ?_ ?_
      ·
        refine region ?_
        refine sv (yLdBA h3 Tryz.isAgg26 Tryz.sizeOf26 (hS.at _) rfl rfl) ?_
        refine sv (yMove h13) ?_
        refine scall Tryz.call23 (.cons rfl (.cons rfl .nil)) (c_Arrival (hg.ext hS.ext) (h.ext hS.ext)) ?_
        rw [ha0]
        rintro _ w ⟨rfl, hE⟩; replace hS := hS.step hE; clear hE
        refine sv (yMove rfl) ?_
        refine sv (yExt rfl rfl) ?_
        refine sv (yExt rfl rfl) ?_
        refine sv (yExt rfl rfl) ?_
        refine salloc hS Tryz.zeroValue44 rfl ?_; clear hS; intro b14 w hS
        refine sst hS rfl rfl Tryz.sizeOf44 rfl rfl rfl rfl ?_; clear hS; intro w hS
        refine sv (yAsg rfl) ?_
        refine sv (yAsg rfl) ?_
        refine nil ?_
        exact ⟨_, rfl, b14, h1, h2, h3, h8, h12, h13, rfl, rfl, hS, trivial⟩
      ·
        clear hS; rintro f w ⟨b14, h1, h2, h3, h8, h12, h13, h15, h16, hS, -⟩
        refine seq ?_
        refine region ?_
        refine sv (yMove h16) ?_
        refine sv (yEql rfl rfl) ?_
        refine sv (yMove rfl) ?_
        refine sg rfl rfl rfl (fun g => (yMove h15)) (fun v57 g57 => ?_)
        refine sg rfl rfl rfl (fun g => (yGtr (g57.1 g) rfl)) (fun v58 g58 => ?_)
        refine sv (yAnd rfl (fun hB => (g58.1 hB)) rfl) ?_
        refine sv (yMove rfl) ?_
        refine sg rfl rfl rfl (fun g => (yMove h13)) (fun v61 g61 => ?_)
        refine sg rfl rfl rfl (fun g => (yLss (g61.1 g) rfl)) (fun v62 g62 => ?_)
        refine sv (yAnd rfl (fun hB => (g62.1 hB)) rfl) ?_
        refine sv (yMove rfl) ?_
        refine sg rfl rfl rfl (fun g => (yMove h2)) (fun v65 g65 => ?_)
        refine sg rfl rfl rfl (fun g => (yToI (g65.1 g) Tryz.underlying5 Tryz.underlying3 ⟨by omega, by omega⟩)) (fun v66 g66 => ?_)
        refine sg rfl rfl rfl (fun g => (yMove h13)) (fun v67 g67 => ?_)
        refine sg rfl rfl rfl (fun g => (yShrI (g66.1 g) (g67.1 g) (by omega) (by omega))) (fun v68 g68 => ?_)
        refine sg rfl rfl rfl (fun g => (yRemP (g68.1 g) rfl hpw (by decide))) (fun v69 g69 => ?_)
        refine sg rfl rfl rfl (fun g => (yEql (g69.1 g) rfl)) (fun v70 g70 => ?_)
        refine sv (yAnd rfl (fun hB => (g70.1 hB)) rfl) ?_
        refine nil ?_
        show Code.wp _ _ _ _ _
        refine cond rfl (fun c71 => ?_) (fun c71 => ?_)
        ·
          have hbb : hallB t tw (k : Int) = true := by
            have hb : (((decide (e0 = 0) && decide (0 < (arr t (k : Int)).2)) && decide ((k : Int) < 8)) && decide (tw / 2 ^ (k : Int).toNat % 2 = 1)) = true := c71
            rw [decide_eq_true hz0] at hb
            exact hb
          refine region ?_
          refine sv (yMove h12) ?_
          refine sv (yMove h13) ?_
          refine sbslice hS Tryz.underlying34 Tryz.sizeOf3 rfl Tryz.zeroValue3 rfl (.cons rfl rfl .nil) rfl ?_; clear hS; intro b74 w hS
          refine sapp (bytes := 8) (size := 1) (v := v) (m := 1) hS rfl rfl Tryz.underlying34 ti3 rfl rfl rfl rfl (by decide) (blk_cells (hS.at _)) rfl rfl (by omega) (by omega) ?_; clear hS; intro v75 w hS
          refine sv (yAsg rfl) ?_
          refine nil ?_
          show Code.wp _ _ _ _ _
          refine region ?_
          refine sv (yMove h13) ?_
          refine sv (yAdd rfl rfl ⟨by omega, by omega⟩) ?_
          refine sv (yAsg rfl) ?_
          refine nil ?_
          exact ⟨_, _, rfl, ⟨k + 1, _, h1, h2, h3, h8, rfl, rfl, (by rw [show hallK t tw (k + 1) = hallK t tw k ++ [(k : Int)] from filt_in (p := hallB t tw) hkn hbb, List.flatMap_append, List.length_append]; exact hS.sub (.cons _ (.cons _ (List.Sublist.refl _)))), (by omega), rfl⟩, by omega⟩
        ·
          have hbb : hallB t tw (k : Int) = false := by
            have hb : (((decide (e0 = 0) && decide (0 < (arr t (k : Int)).2)) && decide ((k : Int) < 8)) && decide (tw / 2 ^ (k : Int).toNat % 2 = 1)) = false := c71
            rw [decide_eq_true hz0] at hb
            exact hb
          refine skip ?_
          show Code.wp _ _ _ _ _
          refine region ?_
          refine sv (yMove h13) ?_
          refine sv (yAdd rfl rfl ⟨by omega, by omega⟩) ?_
          refine sv (yAsg rfl) ?_
          refine nil ?_
          exact ⟨_, _, rfl, ⟨k + 1, _, h1, h2, h3, h8, h12, rfl, (by rw [show hallK t tw (k + 1) = hallK t tw k from filt_out (p := hallB t tw) hkn hbb]; exact hS.sub (.cons _ (List.Sublist.refl _))), (by omega), rfl⟩, by omega⟩
    ·
      simp only [Bool.and_eq_true, Bool.or_eq_true, Bool.and_eq_false_iff, Bool.or_eq_false_iff, decide_eq_true_eq, decide_eq_false_iff_not, Bool.not_eq_true, Bool.not_eq_false, Bool.not_not, Bool.not_eq_eq_eq_not, Bool.not_true, Bool.not_false, Bool.false_eq_true, Bool.true_eq_false, ne_eq, Decidable.not_not, not_false_eq_true, not_true_eq_false] at c44
      obtain rfl : k = t.towns.length := by omega
      have hkl := hallK_len t tw t.towns.length
      have hms : ∀ x ∈ hallK t tw t.towns.length, 0 ≤ x ∧ x < (t.towns.length : Int) := fun x hx => idxL_mem (List.mem_of_mem_take (List.mem_filter.1 hx).1)
      refine exit ?_
      show Code.wp _ _ _ _ _
      refine seq ?_
      refine region ?_
      refine sv (yLdBA h3 Tryz.isAgg26 Tryz.sizeOf26 (hS.at _) rfl rfl) ?_
      refine sv (yMove h1) ?_
      refine sv (yMove h12) ?_
      obtain ⟨av, cv, rfl⟩ := row_shape (hS.row v)
      refine scall Tryz.call27 (.cons rfl (.cons rfl (.cons rfl .nil))) (c_slotsL (hg.ext hS.ext) (h.ext hS.ext) hck hn (sl_ints (hS.row (.slice av (hallK t tw t.towns.length).length cv)) rfl (fun x hx => by have := hms x hx; constructor <;> omega)) hms) ?_
      rintro _ w ⟨rfl, hE⟩; replace hS := hS.step hE; clear hE
      refine sv (yMove h12) ?_
      refine sv (yLen rfl Tryz.underlying34) ?_
      refine sv (yGeq rfl rfl) ?_
      refine sv (yMove rfl) ?_
      refine sg rfl rfl rfl (fun g => (yMove h8)) (fun v84 g84 => ?_)
      refine sg rfl rfl rfl (fun g => (yEql (g84.1 g) rfl)) (fun v85 g85 => ?_)
      refine sv (yOr rfl rfl (fun hB => (g85.1 hB))) ?_
      refine sv (yMove rfl) ?_
      refine sgc hS rfl rfl rfl Tryz.call20 (fun g => .nil) (fun g => (c_Awake (hg.ext hS.ext))) ?_; clear hS; intro v88 w hS g88
      refine sv (yAnd rfl (fun hB => (g88.1 hB)) rfl) ?_
      refine sv (yAsg rfl) ?_
      refine nil ?_
      show Code.wp _ _ _ _ _
      refine wp_ret ?_
      exact retV (res1 rfl (eqB (hall_bool (hall_law hck hn (hallK_sub t tw))).symm)) hS.ext
end Go.Proofs.YtmoilbakmlekbaaGreatDoor
/- part A22 -/
namespace Bx
open Go Go.RowKit
/-- What a prefix of the histories says of a town. -/
def arrP (t : Task) (x : Town) (k : Nat) : Span × Int := (t.floods.take k).foldl (arrStep x) (⟨0, 0⟩, 0)
theorem arrP_succ {t : Task} {x : Town} {k : Nat} {l : List Int} (h : t.floods[k]? = some l) : arrP t x (k + 1) = arrStep x (arrP t x k) l := by
  unfold arrP; rw [take_snoc h, List.foldl_append]; rfl
theorem arrP_end (t : Task) (x : Town) : arrP t x t.floods.length = arrF t x := by unfold arrP arrF; rw [List.take_length]
def fld (x : Town) (l : List Int) : Int := l.getD x.polder.toNat 0
theorem arrP_spec (t : Task) (x : Town) : ∀ k, k ≤ t.floods.length → 0 ≤ (arrP t x k).2 ∧ ((arrP t x k).2 = 0 ↔ ∀ (j : Nat) l, j < k → t.floods[j]? = some l → fld x l < 0) ∧ ∀ (j : Nat) l, j < k → t.floods[j]? = some l → 0 ≤ fld x l → (arrP t x k).1.lo ≤ fld x l + x.travel
  | 0, _ => ⟨Int.le_refl _, ⟨fun _ j l hj => absurd hj (Nat.not_lt_zero j), fun _ => rfl⟩, fun j l hj => absurd hj (Nat.not_lt_zero j)⟩
  | k + 1, hk => by
    obtain ⟨h0, h1, h2⟩ := arrP_spec t x k (by omega)
    obtain ⟨l, hl, -⟩ := drop_of (l := t.floods) (k := k) (by omega)
    rw [arrP_succ hl]
    have hstep : arrStep x (arrP t x k) l = if fld x l < 0 then arrP t x k else if (arrP t x k).2 = 0 then (⟨fld x l + x.travel, fld x l + x.travel⟩, 1) else (⟨min (arrP t x k).1.lo (fld x l + x.travel), max (arrP t x k).1.hi (fld x l + x.travel)⟩, (arrP t x k).2 + 1) := rfl
    rw [hstep]
    have hat : ∀ {j : Nat} {m}, t.floods[j]? = some m → j = k → m = l := fun hm e => by subst e; rw [hl] at hm; cases hm; rfl
    split
    next hn =>
      refine ⟨h0, ⟨fun h j m hj hm => ?_, fun h => h1.2 fun j m hj hm => h j m (by omega) hm⟩, fun j m hj hm hp => ?_⟩
      · by_cases e : j = k
        · rw [hat hm e]; exact hn
        · exact h1.1 h j m (by omega) hm
      · by_cases e : j = k
        · rw [hat hm e] at hp; omega
        · exact h2 j m (by omega) hm hp
    next hn =>
      split
      next hz =>
        refine ⟨by simp only; omega, ⟨fun h => (nomatch h), fun h => absurd (h k l (by omega) hl) hn⟩, fun j m hj hm hp => ?_⟩
        by_cases e : j = k
        · rw [hat hm e]; exact Int.le_refl _
        · exact absurd (h1.1 hz j m (by omega) hm) (by omega)
      next hz =>
        refine ⟨by simp only; omega, ⟨fun h => by simp only at h; omega, fun h => absurd (h k l (by omega) hl) hn⟩, fun j m hj hm hp => ?_⟩
        by_cases e : j = k
        · rw [hat hm e]; simp only; omega
        · have := h2 j m (by omega) hm hp
          simp only; omega
theorem okL_all {P : Pl} : ∀ (l : List Slot), OkL P [] l → (∀ s ∈ l, s.channel ∈ P.chans s.town ∧ P.now ≤ s.sent ∧ s.sent ≤ P.latest s.town s.channel) ∧ ∀ s ∈ l, (usedN l s.pl : Int) ≤ P.room s.channel := by
  intro l
  induction l using snocR with
  | h0 => exact fun _ => ⟨fun _ h => (nomatch h), fun _ h => (nomatch h)⟩
  | h1 l s ih =>
    intro h
    obtain ⟨h1, h2⟩ := (OkL.app l [] [s]).1 h
    rw [List.nil_append] at h2
    obtain ⟨⟨k1, k2, k3, k4⟩, -⟩ := h2
    obtain ⟨i1, i2⟩ := ih h1
    refine ⟨fun y hy => ?_, fun y hy => ?_⟩
    · rcases List.mem_append.1 hy with hy | hy
      · exact i1 y hy
      · rw [List.mem_singleton.1 hy]; exact ⟨k1, k2, k3⟩
    · rw [usedN_snoc]
      by_cases e : s.pl = y.pl
      · rw [if_pos e, ← e]
        have hc : s.channel = y.channel := congrArg Prod.fst e
        rw [← hc]; push_cast; omega
      · rw [if_neg e]
        rcases List.mem_append.1 hy with hy | hy
        · have := i2 y hy; push_cast; omega
        · rw [List.mem_singleton.1 hy] at e; exact absurd rfl e
structure InTime (t : Task) (now : Int) (L : List Slot) : Prop where
  towns : L.map (·.town) = wetL t
  fits : ∀ s ∈ L, s.channel ∈ (twn t s.town).chans ∧ now ≤ s.sent ∧ s.sent ≤ latestF t s.town s.channel
  room : ∀ s ∈ L, (usedN L s.pl : Int) ≤ (chn t s.channel).room
theorem plan_intime {t : Task} {now : Int} (h : (planR t now).2 = 0) : TaskOk t ∧ InTime t now (planR t now).1 := by
  unfold planR at h ⊢
  split at h
  next h1 => exact absurd h h1
  next h1 =>
    have hck : (checkA t).2.2 = 0 := by
      by_cases e : (checkA t).2.2 = 0
      · exact e
      · exact absurd (by unfold atE; rw [if_pos e]; exact e) h1
    have hok := task_ok hck
    rw [if_neg h1]
    cases hp : planA t now with
    | none => rw [hp] at h; cases h
    | some L =>
      have hr : (plT t now).ref (wetL t) [] = some L := by
        rw [← hp]; unfold planA
        exact (plan_ref (chL_nod t) (wetL_nod t) (chL_mem hok) (fuel_UU hok now)).symm
      obtain ⟨o1, T, o2, o3⟩ := ref_ok (wetL t) [] L trivial hr
      rw [List.nil_append] at o2
      subst o2
      obtain ⟨q1, q2⟩ := okL_all L o1
      exact ⟨hok, o3, q1, q2⟩
end Bx
/- part A23 -/
namespace Bx
open Go Go.RowKit
def wetN (t : Task) (k : Nat) : Nat := (((idxL t).take k).filter fun i => decide (0 < (arr t i).2)).length
theorem wetN_out {t : Task} {k : Nat} (hk : k < t.towns.length) (h : ¬ 0 < (arr t (k : Int)).2) : wetN t (k + 1) = wetN t k := by
  unfold wetN; rw [filt_out (p := fun i => decide (0 < (arr t i).2)) hk (decide_eq_false h)]
theorem wetN_in {t : Task} {k : Nat} (hk : k < t.towns.length) (h : 0 < (arr t (k : Int)).2) : wetN t (k + 1) = wetN t k + 1 := by
  unfold wetN; rw [filt_in (p := fun i => decide (0 < (arr t i).2)) hk (decide_eq_true h), List.length_append]; rfl
theorem wetN_end (t : Task) : wetN t t.towns.length = (wetL t).length := by unfold wetN wetL; rw [← idxL_len, List.take_length]
theorem wetN_at {t : Task} {k : Nat} (hk : k < t.towns.length) (h : 0 < (arr t (k : Int)).2) : (wetL t)[wetN t k]? = some (k : Int) := by
  have e : wetL t = ((idxL t).take k).filter (fun i => decide (0 < (arr t i).2)) ++ ((k : Int) :: ((idxL t).drop (k + 1)).filter fun i => decide (0 < (arr t i).2)) := by
    obtain ⟨x, hx, hd⟩ := drop_of (l := idxL t) (k := k) (by rw [idxL_len]; exact hk)
    rw [idxL_get hk] at hx; cases hx
    have e1 : idxL t = (idxL t).take k ++ ((k : Int) :: (idxL t).drop (k + 1)) := by rw [← hd, List.take_append_drop]
    unfold wetL
    conv => lhs; rw [e1]
    rw [List.filter_append, List.filter_cons_of_pos (by simpa using h)]
  unfold wetN
  rw [e, List.getElem?_append_right (Nat.le_refl _)]
  simp
theorem slot_of {t : Task} {now : Int} {L : List Slot} (h : InTime t now L) {k : Nat} (hk : k < t.towns.length) (hw : 0 < (arr t (k : Int)).2) : ∃ s, L[wetN t k]? = some s ∧ s.town = (k : Int) := by
  have := wetN_at hk hw
  rw [← h.towns, List.getElem?_map] at this
  obtain ⟨s, hs, e⟩ := Option.map_eq_some_iff.1 this
  exact ⟨s, hs, e⟩
theorem slot_len {t : Task} {now : Int} {L : List Slot} (h : InTime t now L) : L.length = (wetL t).length := by rw [← h.towns, List.length_map]
theorem slot_mem {t : Task} {now : Int} {L : List Slot} (h : InTime t now L) {s : Slot} (hs : s ∈ L) : 0 ≤ s.town ∧ s.town < t.towns.length := by
  have : s.town ∈ wetL t := by rw [← h.towns]; exact List.mem_map_of_mem hs
  exact idxL_mem (List.mem_filter.1 this).1
theorem arr_wet {t : Task} {i : Int} {k : Nat} {l : List Int} (hl : t.floods[k]? = some l) (h : 0 ≤ fld (twn t i) l) : 0 < (arr t i).2 ∧ (arr t i).1.lo ≤ fld (twn t i) l + (twn t i).travel := by
  have hk := (List.getElem?_eq_some_iff.1 hl).1
  obtain ⟨h0, h1, h2⟩ := arrP_spec t (twn t i) t.floods.length (Nat.le_refl _)
  rw [arrP_end] at h0 h1 h2
  refine ⟨?_, h2 k l hk hl h⟩
  by_cases e : (arrF t (twn t i)).2 = 0
  · exact absurd (h1.1 e k l hk hl) (by omega)
  · show 0 < (arrF t (twn t i)).2
    omega
theorem comes_skip {t : Task} {x : Town} {k : Nat} {l : List Int} (hl : t.floods[k]? = some l) (h : fld x l < 0) : (arrP t x (k + 1)).2 = (arrP t x k).2 := by
  rw [arrP_succ hl]
  show (if fld x l < 0 then arrP t x k else _).2 = _
  rw [if_pos h]
theorem comes_hit {t : Task} {x : Town} {k : Nat} {l : List Int} (hl : t.floods[k]? = some l) (h : ¬ fld x l < 0) : 0 < (arrP t x (k + 1)).2 := by
  have hk := (List.getElem?_eq_some_iff.1 hl).1
  obtain ⟨h0, h1, -⟩ := arrP_spec t x (k + 1) (by omega)
  by_cases e : (arrP t x (k + 1)).2 = 0
  · exact absurd (h1.1 e k l (by omega) hl) h
  · omega
theorem plan_now {t : Task} {now : Int} (h : (planR t now).2 = 0) : 0 ≤ now ∧ now ≤ 200000 := by
  unfold planR at h
  split at h
  next h1 => exact absurd h h1
  next h1 => exact (atE_ok (Decidable.not_not.1 h1)).2
end Bx
/- part Aw26 -/
namespace Go.Proofs.YtmoilbakmlekbaaGreatDoor
open Go Bx
set_option maxHeartbeats 4000000 in
/-- barrage/barragelaw11.AlarmInTime -/
theorem w_AlarmInTime {t : Task} {cs : List Value} {now : Int} {w0 : World} (hg : Glb w0) (h : RTask w0 cs t) (_ : I64 now) : CV Tryz.prog 3 #[.agg cs.toArray, .int .i64 now] w0 (.bool true) := by
  obtain ⟨hv, nv, fv, rfl, hpol, hsh, hsn, hsf⟩ := id h
  obtain ⟨a1, cap1, rfl, hcap1, hmx1, hel1⟩ := id hsh
  obtain ⟨a2, cap2, rfl, hcap2, hmx2, hel2⟩ := id hsn
  obtain ⟨a3, cap3, rfl, hcap3, hmx3, hel3⟩ := id hsf
  obtain ⟨L, e0, hpl⟩ : ∃ L e, planR t now = (L, e) := ⟨_, _, rfl⟩
  have hint : e0 = 0 → TaskOk t ∧ InTime t now L := fun h => by
    have hh := plan_intime (t := t) (now := now) (by rw [hpl]; exact h)
    rw [hpl] at hh
    exact hh
  have hnow : e0 = 0 → 0 ≤ now ∧ now ≤ 200000 := fun h => plan_now (t := t) (by rw [hpl]; exact h)
  refine enter Tryz.func3 rfl Tryz.ntmps3 rfl ?_
  have hS := St.start w0
  refine seq ?_
  refine region ?_
  refine sbox hS rfl rfl ?_; clear hS; intro b2 w hS
  refine sv (yAsg rfl) ?_
  refine nil ?_
  show Code.wp _ _ _ _ _
  refine seq ?_
  refine region ?_
  refine sv (yLdBA rfl Tryz.isAgg26 Tryz.sizeOf26 (hS.at _) rfl rfl) ?_
  refine sv (yMove rfl) ?_
  refine scall Tryz.call18 (.cons rfl (.cons rfl .nil)) (c_Plan (hg.ext hS.ext) (h.ext hS.ext)) ?_
  rw [hpl]
  rintro _ w ⟨pv, rfl, hM⟩; replace hS := hS.call1 hM; clear hM
  replace hS : StX [] w0 w [rowI pv 38 3 L.length (L.flatMap slotC), blk b2 [.int .i64 t.polders, .slice a1 t.chans.length cap1, .slice a2 t.towns.length cap2, .slice a3 t.floods.length cap3] 26] := hS
  refine sv (yMove rfl) ?_
  refine sv (yExt rfl rfl) ?_
  refine sv (yExt rfl rfl) ?_
  refine sv (yAsg rfl) ?_
  refine sv (yAsg rfl) ?_
  refine nil ?_
  show Code.wp _ _ _ _ _
  refine seq ?_
  refine region ?_
  refine sv (yLdBA rfl Tryz.isAgg26 Tryz.sizeOf26 (hS.at _) rfl rfl) ?_
  refine scall Tryz.call19 (.cons rfl .nil) (c_CheckA (hg.ext hS.ext) (h.ext hS.ext)) ?_
  rintro _ w ⟨rfl, hE⟩; replace hS := hS.step hE; clear hE
  refine sv (yMove rfl) ?_
  refine sv (yExt rfl rfl) ?_
  refine sv (yExt rfl rfl) ?_
  refine sv (yExt rfl rfl) ?_
  refine sv (yAsg rfl) ?_
  refine sv (yAsg rfl) ?_
  refine sv (yAsg rfl) ?_
  refine nil ?_
  show Code.wp _ _ _ _ _
  refine seq ?_
  refine seq ?_
  refine region ?_
  refine sv (yMove rfl) ?_
  refine sv (yNeq rfl rfl) ?_
  refine sv (yMove rfl) ?_
  refine sg rfl rfl rfl (fun g => (yMove rfl)) (fun v33 g33 => ?_)
  refine sg rfl rfl rfl (fun g => (yNeq (g33.1 g) rfl)) (fun v34 g34 => ?_)
  refine sv (yOr rfl rfl (fun hB => (g34.1 hB))) ?_
  refine nil ?_
  show Code.wp _ _ _ _ _
  refine cond rfl (fun c35 => ?_) (fun c35 => ?_)
  ·
    simp only [Bool.and_eq_true, Bool.or_eq_true, Bool.and_eq_false_iff, Bool.or_eq_false_iff, decide_eq_true_eq, decide_eq_false_iff_not, Bool.not_eq_true, Bool.not_eq_false, Bool.not_not, Bool.not_eq_eq_eq_not, Bool.not_true, Bool.not_false, Bool.false_eq_true, Bool.true_eq_false, ne_eq, Decidable.not_not, not_false_eq_true, not_true_eq_false] at c35
    refine seq ?_
    refine region ?_
    refine scall Tryz.call20 .nil (c_Awake (hg.ext hS.ext)) ?_
    rintro _ w ⟨rfl, hE⟩; replace hS := hS.step hE; clear hE
    refine sv (yAsg rfl) ?_
    refine nil ?_
    show Code.wp _ _ _ _ _
    refine wp_ret (thenR ?_)
    exact retV (res1 rfl rfl) hS.ext
  ·
    simp only [Bool.and_eq_true, Bool.or_eq_true, Bool.and_eq_false_iff, Bool.or_eq_false_iff, decide_eq_true_eq, decide_eq_false_iff_not, Bool.not_eq_true, Bool.not_eq_false, Bool.not_not, Bool.not_eq_eq_eq_not, Bool.not_true, Bool.not_false, Bool.false_eq_true, Bool.true_eq_false, ne_eq, Decidable.not_not, not_false_eq_true, not_true_eq_false] at c35
    obtain ⟨hok, hit⟩ := hint (by omega)
    obtain ⟨hn0, hn1⟩ := hnow (by omega)
    obtain ⟨al, cl, rfl⟩ := row_shape (hS.row pv)
    have hn8 := hok.ntw
    have hf8 := hok.nfl
    have hLl := slot_len hit
    have hwl := wetL_len t
    have s2 := hsn
    refine skip ?_
    show Code.wp _ _ _ _ _
    refine seq ?_
    refine region ?_
    refine sv (yAsg rfl) ?_
    refine nil ?_
    show Code.wp _ _ _ _ _
    refine seq ?_
    refine seq ?_
    refine region ?_
    refine sv (yAsg rfl) ?_
    refine nil ?_
    show Code.wp _ _ _ _ _
    refine block ?_
    refine loop (fun f w zz => ∃ (i : Nat), f 1 = .int .i64 now ∧ f 2 = .pointer (some ⟨b2, 0, none⟩) ∧ f 5 = .slice al L.length cl ∧ f 10 = .int .i64 (wetN t i : Int) ∧ f 11 = .int .i64 (i : Int) ∧ StX [] w0 w [rowI (.slice al L.length cl) 38 3 L.length (L.flatMap slotC), blk b2 [.int .i64 t.polders, .slice a1 t.chans.length cap1, .slice a2 t.towns.length cap2, .slice a3 t.floods.length cap3] 26] ∧ (i ≤ t.towns.length) ∧ zz = t.towns.length - i) _ ⟨_, rfl, 0, rfl, rfl, rfl, rfl, rfl, hS, (Nat.zero_le _), rfl⟩ ?_
    clear hS
    rintro f w _ ⟨i, h1, h2, h5, h10, h11, hS, hi, rfl⟩
    refine seq ?_
    refine seq ?_
    refine region ?_
    refine sv (yMove h11) ?_
    refine sv (fa26_2 h2) ?_
    refine sv (yLdB rfl Tryz.isAgg23 (hS.at _) rfl) ?_
    refine sv (yLen rfl Tryz.underlying23) ?_
    refine sv (yLss rfl rfl) ?_
    refine nil ?_
    show Code.wp _ _ _ _ _
    refine cond rfl (fun c41 => ?_) (fun c41 => ?_)
    ·
      simp only [Bool.and_eq_true, Bool.or_eq_true, Bool.and_eq_false_iff, Bool.or_eq_false_iff, decide_eq_true_eq, decide_eq_false_iff_not, Bool.not_eq_true, Bool.not_eq_false, Bool.not_not, Bool.not_eq_eq_eq_not, Bool.not_true, Bool.not_false, Bool.false_eq_true, Bool.true_eq_false, ne_eq, Decidable.not_not, not_false_eq_true, not_true_eq_false] at c41
      have hkn : i < t.towns.length := by omega
      have hib : 0 ≤ (i : Int) ∧ (i : Int) < t.towns.length := by omega
      obtain ⟨bt, ot, cst, hat, hlt, hcst, hRt, -⟩ := sl_at s2 (twn_i (t := t) hib)
      obtain ⟨dvt, rfl, -, -, -, -, hslt, -⟩ := hRt
      have hto := town_ok hok hib
      have htl := hto.lead
      obtain ⟨ak, ck, rfl, -⟩ := id hslt
      have htp := hto.pol
      have htr := hto.travel
      have hwn : wetN t i ≤ i := Nat.le_trans (List.length_filter_le _ _) (by simp; omega)
      refine skip ?_
      show Code.wp _ _ _ _ _
      refine seq ?_
      refine block ?_
      refine seq ?_
      refine region ?_
      refine sv (fa26_2 h2) ?_
      refine sv (yLdB rfl Tryz.isAgg23 (hS.at _) rfl) ?_
      refine sv (yMove h11) ?_
      refine sv (yIxa rfl hat rfl Tryz.runUnderlying23 Tryz.sizeOf36 (by omega) (by omega)) ?_
      refine sv (yLdA rfl Tryz.isAgg36 Tryz.sizeOf36 (hcst.ext hS.ext) rfl) ?_
      refine salloc hS Tryz.zeroValue36 rfl ?_; clear hS; intro b12 w hS
      refine sst hS rfl rfl Tryz.sizeOf36 rfl rfl rfl rfl ?_; clear hS; intro w hS
      refine nil ?_
      show Code.wp _ _ _ _ _
      refine seq ?_
      refine region ?_
      refine sv (yAsg rfl) ?_
      refine nil ?_
      show Code.wp _ _ _ _ _
      refine seq ?_
      refine seq ?_
      refine region ?_
      refine sv (yAsg rfl) ?_
      refine nil ?_
      show Code.wp _ _ _ _ _
      refine block ?_
      refine loop (fun f w zz => ∃ (k : Nat), f 1 = .int .i64 now ∧ f 2 = .pointer (some ⟨b2, 0, none⟩) ∧ f 5 = .slice al L.length cl ∧ f 10 = .int .i64 (wetN t i : Int) ∧ f 11 = .int .i64 (i : Int) ∧ f 12 = .pointer (some ⟨b12, 0, none⟩) ∧ f 13 = .bool (decide ((arrP t (twn t (i : Int)) k).2 ≠ 0)) ∧ f 14 = .int .i64 (k : Int) ∧ StX [] w0 w [blk b12 [.string (twn t (i : Int)).name, .int .i64 (twn t (i : Int)).polder, .int .i64 (twn t (i : Int)).travel, .int .i64 (twn t (i : Int)).lead, .slice ak (twn t (i : Int)).chans.length ck] 36, rowI (.slice al L.length cl) 38 3 L.length (L.flatMap slotC), blk b2 [.int .i64 t.polders, .slice a1 t.chans.length cap1, .slice a2 t.towns.length cap2, .slice a3 t.floods.length cap3] 26] ∧ (k ≤ t.floods.length) ∧ zz = t.floods.length - k) _ ⟨_, rfl, 0, h1, h2, h5, h10, h11, rfl, rfl, rfl, hS, (Nat.zero_le _), rfl⟩ ?_
      clear hS
      rintro f w _ ⟨k, h1, h2, h5, h10, h11, h12, h13, h14, hS, hk, rfl⟩
      refine seq ?_
      refine seq ?_
      refine region ?_
      refine sv (yMove h14) ?_
      refine sv (fa26_3 h2) ?_
      refine sv (yLdB rfl Tryz.isAgg24 (hS.at _) rfl) ?_
      refine sv (yLen rfl Tryz.underlying24) ?_
      refine sv (yLss rfl rfl) ?_
      refine nil ?_
      show Code.wp _ _ _ _ _
      refine cond rfl (fun c53 => ?_) (fun c53 => ?_)
      ·
        simp only [Bool.and_eq_true, Bool.or_eq_true, Bool.and_eq_false_iff, Bool.or_eq_false_iff, decide_eq_true_eq, decide_eq_false_iff_not, Bool.not_eq_true, Bool.not_eq_false, Bool.not_not, Bool.not_eq_eq_eq_not, Bool.not_true, Bool.not_false, Bool.false_eq_true, Bool.true_eq_false, ne_eq, Decidable.not_not, not_false_eq_true, not_true_eq_false] at c53
        obtain ⟨l, hxl, hdl⟩ := drop_of (l := t.floods) (k := k) (by omega)
        obtain ⟨bl, ol, csl, hal, hlenl, hcsl, hRl⟩ := hel3 (k) (by omega)
        obtain rfl : l = t.floods[k] := (List.getElem?_eq_some_iff.1 hxl).2.symm
        generalize t.floods[k] = l at hxl hdl hRl
        have hR1 := hRl
        obtain ⟨lv, rfl, hsl⟩ := id hR1
        obtain ⟨a6, cl2, rfl, hlcap, hlmx, hlel⟩ := id hsl
        have hfl := hok.flood l (List.mem_of_getElem? hxl)
        obtain ⟨bp, op, csp, hap, hlp, hcsp, hRp⟩ := hlel (twn t (i : Int)).polder.toNat (by omega)
        obtain ⟨rfl, hip⟩ := hRp
        have hvx : l[(twn t (i : Int)).polder.toNat] = fld (twn t (i : Int)) l := by unfold fld; simp [List.getD, show (twn t (i : Int)).polder.toNat < l.length by omega]
        have hvb := (hfl.2 _ (List.getElem_mem (show (twn t (i : Int)).polder.toNat < l.length by omega)))
        rw [hvx] at hcsp hip hvb
        refine skip ?_
        show Code.wp _ _ _ _ _
        refine seq ?_
        refine block ?_
        refine seq ?_
        refine seq ?_
        refine region_draw mixed (by kernel_rfl) hS ?_
        refine qv (fun w hS => (fa36_1 h12)) ?_
        refine qv (fun w hS => (yLdB rfl Tryz.isAgg3 (hS.at _) rfl)) ?_
        refine qv (fun w hS => (yLss rfl rfl)) ?_
        refine qv (fun w hS => (yMove rfl)) ?_
        refine qg rfl rfl rfl (fun g w hS => (fa36_1 h12)) (fun v60 g60 => ?_)
        refine qg rfl rfl rfl (fun g w hS => (yLdB (g60.1 g) Tryz.isAgg3 (hS.at _) rfl)) (fun v61 g61 => ?_)
        refine qg rfl rfl rfl (fun g w hS => (fa26_3 h2)) (fun v62 g62 => ?_)
        refine qg rfl rfl rfl (fun g w hS => (yLdB (g62.1 g) Tryz.isAgg24 (hS.at _) rfl)) (fun v63 g63 => ?_)
        refine qg rfl rfl rfl (fun g w hS => (yMove h14)) (fun v64 g64 => ?_)
        refine qg rfl rfl rfl (fun g w hS => (yIxa (g63.1 g) hal (g64.1 g) Tryz.runUnderlying24 Tryz.sizeOf34 (by omega) (by omega))) (fun v65 g65 => ?_)
        refine qg rfl rfl rfl (fun g w hS => (yLd (g65.1 g) Tryz.isAgg34 ((hcsl.ext hS.ext).one))) (fun v66 g66 => ?_)
        refine qg rfl rfl rfl (fun g w hS => (yLen (g66.1 g) Tryz.underlying34)) (fun v67 g67 => ?_)
        refine qg rfl rfl rfl (fun g w hS => (yGeq (g61.1 g) (g67.1 g))) (fun v68 g68 => ?_)
        refine qv (fun w hS => (yOr rfl rfl (fun hB => (g68.1 hB)))) ?_
        refine qv (fun w hS => (yMove rfl)) ?_
        refine qg rfl rfl rfl (fun g w hS => (fa26_3 h2)) (fun v71 g71 => ?_)
        refine qg rfl rfl rfl (fun g w hS => (yLdB (g71.1 g) Tryz.isAgg24 (hS.at _) rfl)) (fun v72 g72 => ?_)
        refine qg rfl rfl rfl (fun g w hS => (yMove h14)) (fun v73 g73 => ?_)
        refine qg rfl rfl rfl (fun g w hS => (yIxa (g72.1 g) hal (g73.1 g) Tryz.runUnderlying24 Tryz.sizeOf34 (by omega) (by omega))) (fun v74 g74 => ?_)
        refine qg rfl rfl rfl (fun g w hS => (yLd (g74.1 g) Tryz.isAgg34 ((hcsl.ext hS.ext).one))) (fun v75 g75 => ?_)
        refine qg rfl rfl rfl (fun g w hS => (fa36_1 h12)) (fun v76 g76 => ?_)
        refine qg rfl rfl rfl (fun g w hS => (yLdB (g76.1 g) Tryz.isAgg3 (hS.at _) rfl)) (fun v77 g77 => ?_)
        refine qg rfl rfl rfl (fun g w hS => (yIxa (g75.1 g) hap (g77.1 g) Tryz.runUnderlying34 Tryz.sizeOf3 (by omega) (by omega))) (fun v78 g78 => ?_)
        refine qg rfl rfl rfl (fun g w hS => (yLd (g78.1 g) Tryz.isAgg3 ((hcsp.ext hS.ext).one))) (fun v79 g79 => ?_)
        refine qg rfl rfl rfl (fun g w hS => (yLss (g79.1 g) rfl)) (fun v80 g80 => ?_)
        refine qv (fun w hS => (yOr rfl rfl (fun hB => (g80.1 hB)))) ?_
        clear hS; refine qnil (fun w hS => ?_)
        show Code.wp _ _ _ _ _
        refine cond rfl (fun c81 => ?_) (fun c81 => ?_)
        ·
          simp only [Bool.and_eq_true, Bool.or_eq_true, Bool.and_eq_false_iff, Bool.or_eq_false_iff, decide_eq_true_eq, decide_eq_false_iff_not, Bool.not_eq_true, Bool.not_eq_false, Bool.not_not, Bool.not_eq_eq_eq_not, Bool.not_true, Bool.not_false, Bool.false_eq_true, Bool.true_eq_false, ne_eq, Decidable.not_not, not_false_eq_true, not_true_eq_false] at c81
          have hfs : fld (twn t (i : Int)) l < 0 := by omega
          refine exit ?_
          show Code.wp _ _ _ _ _
          refine region ?_
          refine sv (yMove h14) ?_
          refine sv (yAdd rfl rfl ⟨by omega, by omega⟩) ?_
          refine sv (yAsg rfl) ?_
          refine nil ?_
          exact ⟨_, _, rfl, ⟨k + 1, h1, h2, h5, h10, h11, h12, (h13.trans (congrArg Value.bool (by rw [comes_skip hxl hfs]))), rfl, hS, (by omega), rfl⟩, by omega⟩
        ·
          simp only [Bool.and_eq_true, Bool.or_eq_true, Bool.and_eq_false_iff, Bool.or_eq_false_iff, decide_eq_true_eq, decide_eq_false_iff_not, Bool.not_eq_true, Bool.not_eq_false, Bool.not_not, Bool.not_eq_eq_eq_not, Bool.not_true, Bool.not_false, Bool.false_eq_true, Bool.true_eq_false, ne_eq, Decidable.not_not, not_false_eq_true, not_true_eq_false] at c81
          have hfn : ¬ fld (twn t (i : Int)) l < 0 := by omega
          have hwet := arr_wet (i := (i : Int)) hxl (by omega)
          obtain ⟨q, hq, hqt⟩ := slot_of hit hkn hwet.1
          have hqm := List.mem_of_getElem? hq
          have hql := (List.getElem?_eq_some_iff.1 hq).1
          obtain ⟨hqc, hqn, hqs⟩ := hit.fits q hqm
          rw [hqt] at hqc hqs
          have hqb := hto.chans q.channel hqc
          obtain ⟨gl, hae, -⟩ := row_get (hS.row (.slice al L.length cl)) (by omega)
          obtain ⟨bc, oc, csc, hac, hlc, hcsc, hRc, -⟩ := sl_at hsh (chn_i (t := t) hqb)
          obtain ⟨rfl, -⟩ := hRc
          have hqd := (chan_ok hok hqb).1
          have hlat : latestF t (i : Int) q.channel = min 200000 ((arr t (i : Int)).1.lo - (twn t (i : Int)).lead - (chn t q.channel).delay) := rfl
          have hab := arr_bd hok hib
          refine skip ?_
          show Code.wp _ _ _ _ _
          refine seq ?_
          refine region ?_
          refine sv (yAsg rfl) ?_
          refine nil ?_
          show Code.wp _ _ _ _ _
          refine seq ?_
          refine seq ?_
          refine region_draw mixed (by kernel_rfl) hS ?_
          refine qv (fun w hS => (yMove h10)) ?_
          refine qv (fun w hS => (yMove h5)) ?_
          refine qv (fun w hS => (yLen rfl Tryz.underlying27)) ?_
          refine qv (fun w hS => (yGeq rfl rfl)) ?_
          refine qv (fun w hS => (yMove rfl)) ?_
          refine qg rfl rfl rfl (fun g w hS => (yMove h5)) (fun v87 g87 => ?_)
          refine qg rfl rfl rfl (fun g w hS => (yMove h10)) (fun v88 g88 => ?_)
          refine qg rfl rfl rfl (fun g w hS => (yIxa (g87.1 g) hae (g88.1 g) Tryz.runUnderlying27 Tryz.sizeOf38 (by omega) (by omega))) (fun v89 g89 => ?_)
          refine qg rfl rfl rfl (fun g w hS => (fa38_0 (g89.1 g))) (fun v90 g90 => ?_)
          refine qg rfl rfl rfl (fun g w hS => (yLd (g90.1 g) Tryz.isAgg3 ((flat_cells slotC_len (row_at (hS.row (.slice al L.length cl)) hae (by omega)) hq).at (j := 0) rfl))) (fun v91 g91 => ?_)
          refine qg rfl rfl rfl (fun g w hS => (yMove h11)) (fun v92 g92 => ?_)
          refine qg rfl rfl rfl (fun g w hS => (yNeq (g91.1 g) (g92.1 g))) (fun v93 g93 => ?_)
          refine qv (fun w hS => (yOr rfl rfl (fun hB => (g93.1 hB)))) ?_
          refine qv (fun w hS => (yMove rfl)) ?_
          refine qg rfl rfl rfl (fun g w hS => (yMove h5)) (fun v96 g96 => ?_)
          refine qg rfl rfl rfl (fun g w hS => (yMove h10)) (fun v97 g97 => ?_)
          refine qg rfl rfl rfl (fun g w hS => (yIxa (g96.1 g) hae (g97.1 g) Tryz.runUnderlying27 Tryz.sizeOf38 (by omega) (by omega))) (fun v98 g98 => ?_)
          refine qg rfl rfl rfl (fun g w hS => (fa38_2 (g98.1 g))) (fun v99 g99 => ?_)
          refine qg rfl rfl rfl (fun g w hS => (yLd (g99.1 g) Tryz.isAgg3 ((flat_cells slotC_len (row_at (hS.row (.slice al L.length cl)) hae (by omega)) hq).at (j := 2) rfl))) (fun v100 g100 => ?_)
          refine qg rfl rfl rfl (fun g w hS => (yMove h1)) (fun v101 g101 => ?_)
          refine qg rfl rfl rfl (fun g w hS => (yLss (g100.1 g) (g101.1 g))) (fun v102 g102 => ?_)
          refine qv (fun w hS => (yOr rfl rfl (fun hB => (g102.1 hB)))) ?_
          refine qv (fun w hS => (yMove rfl)) ?_
          refine qg rfl rfl rfl (fun g w hS => (yMove h5)) (fun v105 g105 => ?_)
          refine qg rfl rfl rfl (fun g w hS => (yMove h10)) (fun v106 g106 => ?_)
          refine qg rfl rfl rfl (fun g w hS => (yIxa (g105.1 g) hae (g106.1 g) Tryz.runUnderlying27 Tryz.sizeOf38 (by omega) (by omega))) (fun v107 g107 => ?_)
          refine qg rfl rfl rfl (fun g w hS => (fa38_2 (g107.1 g))) (fun v108 g108 => ?_)
          refine qg rfl rfl rfl (fun g w hS => (yLd (g108.1 g) Tryz.isAgg3 ((flat_cells slotC_len (row_at (hS.row (.slice al L.length cl)) hae (by omega)) hq).at (j := 2) rfl))) (fun v109 g109 => ?_)
          refine qg rfl rfl rfl (fun g w hS => (yGtr (g109.1 g) rfl)) (fun v110 g110 => ?_)
          refine qv (fun w hS => (yOr rfl rfl (fun hB => (g110.1 hB)))) ?_
          refine qv (fun w hS => (yMove rfl)) ?_
          refine qg rfl rfl rfl (fun g w hS => (fa36_4 h12)) (fun v113 g113 => ?_)
          refine qg rfl rfl rfl (fun g w hS => (yLdB (g113.1 g) Tryz.isAgg34 (hS.at _) rfl)) (fun v114 g114 => ?_)
          refine qg rfl rfl rfl (fun g w hS => (yMove h5)) (fun v115 g115 => ?_)
          refine qg rfl rfl rfl (fun g w hS => (yMove h10)) (fun v116 g116 => ?_)
          refine qg rfl rfl rfl (fun g w hS => (yIxa (g115.1 g) hae (g116.1 g) Tryz.runUnderlying27 Tryz.sizeOf38 (by omega) (by omega))) (fun v117 g117 => ?_)
          refine qg rfl rfl rfl (fun g w hS => (fa38_1 (g117.1 g))) (fun v118 g118 => ?_)
          refine qg rfl rfl rfl (fun g w hS => (yLd (g118.1 g) Tryz.isAgg3 ((flat_cells slotC_len (row_at (hS.row (.slice al L.length cl)) hae (by omega)) hq).at (j := 1) rfl))) (fun v119 g119 => ?_)
          refine qgc rfl rfl rfl Tryz.call21 (fun g => (.cons (g114.1 g) (.cons (g119.1 g) .nil))) (fun g w hS => (c_has (hslt.ext RInt.stays hS.ext))) (fun v120 g120 => ?_)
          refine qg rfl rfl rfl (fun g w hS => (yNot (g120.1 g))) (fun v121 g121 => ?_)
          refine qv (fun w hS => (yOr rfl rfl (fun hB => (g121.1 hB)))) ?_
          refine qv (fun w hS => (yMove rfl)) ?_
          refine qg rfl rfl rfl (fun g w hS => (yMove h5)) (fun v124 g124 => ?_)
          refine qg rfl rfl rfl (fun g w hS => (yMove h10)) (fun v125 g125 => ?_)
          refine qg rfl rfl rfl (fun g w hS => (yIxa (g124.1 g) hae (g125.1 g) Tryz.runUnderlying27 Tryz.sizeOf38 (by omega) (by omega))) (fun v126 g126 => ?_)
          refine qg rfl rfl rfl (fun g w hS => (fa38_1 (g126.1 g))) (fun v127 g127 => ?_)
          refine qg rfl rfl rfl (fun g w hS => (yLd (g127.1 g) Tryz.isAgg3 ((flat_cells slotC_len (row_at (hS.row (.slice al L.length cl)) hae (by omega)) hq).at (j := 1) rfl))) (fun v128 g128 => ?_)
          refine qg rfl rfl rfl (fun g w hS => (yLss (g128.1 g) rfl)) (fun v129 g129 => ?_)
          refine qv (fun w hS => (yOr rfl rfl (fun hB => (g129.1 hB)))) ?_
          refine qv (fun w hS => (yMove rfl)) ?_
          refine qg rfl rfl rfl (fun g w hS => (yMove h5)) (fun v132 g132 => ?_)
          refine qg rfl rfl rfl (fun g w hS => (yMove h10)) (fun v133 g133 => ?_)
          refine qg rfl rfl rfl (fun g w hS => (yIxa (g132.1 g) hae (g133.1 g) Tryz.runUnderlying27 Tryz.sizeOf38 (by omega) (by omega))) (fun v134 g134 => ?_)
          refine qg rfl rfl rfl (fun g w hS => (fa38_1 (g134.1 g))) (fun v135 g135 => ?_)
          refine qg rfl rfl rfl (fun g w hS => (yLd (g135.1 g) Tryz.isAgg3 ((flat_cells slotC_len (row_at (hS.row (.slice al L.length cl)) hae (by omega)) hq).at (j := 1) rfl))) (fun v136 g136 => ?_)
          refine qg rfl rfl rfl (fun g w hS => (fa26_1 h2)) (fun v137 g137 => ?_)
          refine qg rfl rfl rfl (fun g w hS => (yLdB (g137.1 g) Tryz.isAgg22 (hS.at _) rfl)) (fun v138 g138 => ?_)
          refine qg rfl rfl rfl (fun g w hS => (yLen (g138.1 g) Tryz.underlying22)) (fun v139 g139 => ?_)
          refine qg rfl rfl rfl (fun g w hS => (yGeq (g136.1 g) (g139.1 g))) (fun v140 g140 => ?_)
          refine qv (fun w hS => (yOr rfl rfl (fun hB => (g140.1 hB)))) ?_
          clear hS; refine qnil (fun w hS => ?_)
          show Code.wp _ _ _ _ _
          refine cond rfl (fun c141 => ?_) (fun c141 => ?_)
          ·
            simp only [Bool.and_eq_true, Bool.or_eq_true, Bool.and_eq_false_iff, Bool.or_eq_false_iff, decide_eq_true_eq, decide_eq_false_iff_not, Bool.not_eq_true, Bool.not_eq_false, Bool.not_not, Bool.not_eq_eq_eq_not, Bool.not_true, Bool.not_false, Bool.false_eq_true, Bool.true_eq_false, ne_eq, Decidable.not_not, not_false_eq_true, not_true_eq_false] at c141
            exfalso
            rcases c141 with (((((c | c) | c) | c) | c) | c) | c <;> first | omega | exact absurd hqc (by simpa using c)
          ·
            simp only [Bool.and_eq_true, Bool.or_eq_true, Bool.and_eq_false_iff, Bool.or_eq_false_iff, decide_eq_true_eq, decide_eq_false_iff_not, Bool.not_eq_true, Bool.not_eq_false, Bool.not_not, Bool.not_eq_eq_eq_not, Bool.not_true, Bool.not_false, Bool.false_eq_true, Bool.true_eq_false, ne_eq, Decidable.not_not, not_false_eq_true, not_true_eq_false] at c141
            refine skip ?_
            show Code.wp _ _ _ _ _
            refine seq ?_
            refine region_draw mixed (by kernel_rfl) hS ?_
            refine qv (fun w hS => (yMove h5)) ?_
            refine qv (fun w hS => (yMove h10)) ?_
            refine qv (fun w hS => (yIxa rfl hae rfl Tryz.runUnderlying27 Tryz.sizeOf38 (by omega) (by omega))) ?_
            refine qv (fun w hS => (fa38_2 rfl)) ?_
            refine qv (fun w hS => (yLd rfl Tryz.isAgg3 ((flat_cells slotC_len (row_at (hS.row (.slice al L.length cl)) hae (by omega)) hq).at (j := 2) rfl))) ?_
            refine qv (fun w hS => (fa26_1 h2)) ?_
            refine qv (fun w hS => (yLdB rfl Tryz.isAgg22 (hS.at _) rfl)) ?_
            refine qv (fun w hS => (yMove h5)) ?_
            refine qv (fun w hS => (yMove h10)) ?_
            refine qv (fun w hS => (yIxa rfl hae rfl Tryz.runUnderlying27 Tryz.sizeOf38 (by omega) (by omega))) ?_
            refine qv (fun w hS => (fa38_1 rfl)) ?_
            refine qv (fun w hS => (yLd rfl Tryz.isAgg3 ((flat_cells slotC_len (row_at (hS.row (.slice al L.length cl)) hae (by omega)) hq).at (j := 1) rfl))) ?_
            refine qv (fun w hS => (yIxa rfl hac rfl Tryz.runUnderlying22 Tryz.sizeOf41 (by omega) (by omega))) ?_
            refine qv (fun w hS => (fa41_1 rfl)) ?_
            refine qv (fun w hS => (yLd rfl Tryz.isAgg3 ((hcsc.ext hS.ext).at (j := 1) rfl))) ?_
            refine qv (fun w hS => (yAdd rfl rfl ⟨by omega, by omega⟩)) ?_
            refine qv (fun w hS => (fa36_3 h12)) ?_
            refine qv (fun w hS => (yLdB rfl Tryz.isAgg3 (hS.at _) rfl)) ?_
            refine qv (fun w hS => (yAdd rfl rfl ⟨by omega, by omega⟩)) ?_
            refine qv (fun w hS => (fa26_3 h2)) ?_
            refine qv (fun w hS => (yLdB rfl Tryz.isAgg24 (hS.at _) rfl)) ?_
            refine qv (fun w hS => (yMove h14)) ?_
            refine qv (fun w hS => (yIxa rfl hal rfl Tryz.runUnderlying24 Tryz.sizeOf34 (by omega) (by omega))) ?_
            refine qv (fun w hS => (yLd rfl Tryz.isAgg34 ((hcsl.ext hS.ext).one))) ?_
            refine qv (fun w hS => (fa36_1 h12)) ?_
            refine qv (fun w hS => (yLdB rfl Tryz.isAgg3 (hS.at _) rfl)) ?_
            refine qv (fun w hS => (yIxa rfl hap rfl Tryz.runUnderlying34 Tryz.sizeOf3 (by omega) (by omega))) ?_
            refine qv (fun w hS => (yLd rfl Tryz.isAgg3 ((hcsp.ext hS.ext).one))) ?_
            refine qv (fun w hS => (fa36_2 h12)) ?_
            refine qv (fun w hS => (yLdB rfl Tryz.isAgg3 (hS.at _) rfl)) ?_
            refine qv (fun w hS => (yAdd rfl rfl ⟨by omega, by omega⟩)) ?_
            refine qv (fun w hS => (yGtr rfl rfl)) ?_
            clear hS; refine qnil (fun w hS => ?_)
            show Code.wp _ _ _ _ _
            refine cond rfl (fun c173 => ?_) (fun c173 => ?_)
            ·
              simp only [Bool.and_eq_true, Bool.or_eq_true, Bool.and_eq_false_iff, Bool.or_eq_false_iff, decide_eq_true_eq, decide_eq_false_iff_not, Bool.not_eq_true, Bool.not_eq_false, Bool.not_not, Bool.not_eq_eq_eq_not, Bool.not_true, Bool.not_false, Bool.false_eq_true, Bool.true_eq_false, ne_eq, Decidable.not_not, not_false_eq_true, not_true_eq_false] at c173
              exfalso; have := hwet.2; omega
            ·
              simp only [Bool.and_eq_true, Bool.or_eq_true, Bool.and_eq_false_iff, Bool.or_eq_false_iff, decide_eq_true_eq, decide_eq_false_iff_not, Bool.not_eq_true, Bool.not_eq_false, Bool.not_not, Bool.not_eq_eq_eq_not, Bool.not_true, Bool.not_false, Bool.false_eq_true, Bool.true_eq_false, ne_eq, Decidable.not_not, not_false_eq_true, not_true_eq_false] at c173
              refine skip ?_
              show Code.wp _ _ _ _ _
              refine region ?_
              refine sv (yMove h14) ?_
              refine sv (yAdd rfl rfl ⟨by omega, by omega⟩) ?_
              refine sv (yAsg rfl) ?_
              refine nil ?_
              exact ⟨_, _, rfl, ⟨k + 1, h1, h2, h5, h10, h11, h12, (rfl.trans (congrArg Value.bool (decide_eq_true (by have := comes_hit hxl hfn; omega)).symm)), rfl, hS, (by omega), rfl⟩, by omega⟩
      ·
        simp only [Bool.and_eq_true, Bool.or_eq_true, Bool.and_eq_false_iff, Bool.or_eq_false_iff, decide_eq_true_eq, decide_eq_false_iff_not, Bool.not_eq_true, Bool.not_eq_false, Bool.not_not, Bool.not_eq_eq_eq_not, Bool.not_true, Bool.not_false, Bool.false_eq_true, Bool.true_eq_false, ne_eq, Decidable.not_not, not_false_eq_true, not_true_eq_false] at c53
        obtain rfl : k = t.floods.length := by omega
        rw [arrP_end] at h13
        refine exit ?_
        show Code.wp _ _ _ _ _
        refine seq ?_
        refine region ?_
        refine sv (yMove h13) ?_
        refine nil ?_
        show Code.wp _ _ _ _ _
        refine cond rfl (fun c174 => ?_) (fun c174 => ?_)
        ·
          have hwt : 0 < (arr t (i : Int)).2 := by have := of_decide_eq_true c174; have h3 := (arr_bd hok hib).2.2.1; show 0 < (arrF t (twn t (i : Int))).2; have h4 : 0 ≤ (arrF t (twn t (i : Int))).2 := h3; omega
          refine region ?_
          refine sv (yMove h10) ?_
          refine sv (yAdd rfl rfl ⟨by omega, by omega⟩) ?_
          refine sv (yAsg rfl) ?_
          refine nil ?_
          show Code.wp _ _ _ _ _
          refine region ?_
          refine sv (yMove h11) ?_
          refine sv (yAdd rfl rfl ⟨by omega, by omega⟩) ?_
          refine sv (yAsg rfl) ?_
          refine nil ?_
          exact ⟨_, _, rfl, ⟨i + 1, h1, h2, h5, (rfl.trans (congrArg (Value.int .i64) (by rw [wetN_in hkn hwt]; push_cast; omega))), rfl, (hS.sub (.cons _ (List.Sublist.refl _))), (by omega), rfl⟩, by omega⟩
        ·
          have hwt : ¬ 0 < (arr t (i : Int)).2 := by have h1 := of_decide_eq_false c174; intro h2; exact h1 (by show (arrF t (twn t (i : Int))).2 ≠ 0; have h3 : 0 < (arrF t (twn t (i : Int))).2 := h2; omega)
          refine skip ?_
          show Code.wp _ _ _ _ _
          refine region ?_
          refine sv (yMove h11) ?_
          refine sv (yAdd rfl rfl ⟨by omega, by omega⟩) ?_
          refine sv (yAsg rfl) ?_
          refine nil ?_
          exact ⟨_, _, rfl, ⟨i + 1, h1, h2, h5, (h10.trans (congrArg (Value.int .i64) (by rw [wetN_out hkn hwt]))), rfl, (hS.sub (.cons _ (List.Sublist.refl _))), (by omega), rfl⟩, by omega⟩
    ·
      simp only [Bool.and_eq_true, Bool.or_eq_true, Bool.and_eq_false_iff, Bool.or_eq_false_iff, decide_eq_true_eq, decide_eq_false_iff_not, Bool.not_eq_true, Bool.not_eq_false, Bool.not_not, Bool.not_eq_eq_eq_not, Bool.not_true, Bool.not_false, Bool.false_eq_true, Bool.true_eq_false, ne_eq, Decidable.not_not, not_false_eq_true, not_true_eq_false] at c41
      obtain rfl : i = t.towns.length := by omega
      rw [wetN_end, ← hLl] at h10
      refine exit ?_
      show Code.wp _ _ _ _ _
      refine seq ?_
      refine seq ?_
      refine region ?_
      refine sv (yMove h10) ?_
      refine sv (yMove h5) ?_
      refine sv (yLen rfl Tryz.underlying27) ?_
      refine sv (yNeq rfl rfl) ?_
      refine nil ?_
      show Code.wp _ _ _ _ _
      refine cond rfl (fun c180 => ?_) (fun c180 => ?_)
      ·
        simp only [Bool.and_eq_true, Bool.or_eq_true, Bool.and_eq_false_iff, Bool.or_eq_false_iff, decide_eq_true_eq, decide_eq_false_iff_not, Bool.not_eq_true, Bool.not_eq_false, Bool.not_not, Bool.not_eq_eq_eq_not, Bool.not_true, Bool.not_false, Bool.false_eq_true, Bool.true_eq_false, ne_eq, Decidable.not_not, not_false_eq_true, not_true_eq_false] at c180
        try (exfalso; omega)
      ·
        simp only [Bool.and_eq_true, Bool.or_eq_true, Bool.and_eq_false_iff, Bool.or_eq_false_iff, decide_eq_true_eq, decide_eq_false_iff_not, Bool.not_eq_true, Bool.not_eq_false, Bool.not_not, Bool.not_eq_eq_eq_not, Bool.not_true, Bool.not_false, Bool.false_eq_true, Bool.true_eq_false, ne_eq, Decidable.not_not, not_false_eq_true, not_true_eq_false] at c180
        refine skip ?_
        show Code.wp _ _ _ _ _
        refine seq ?_
        refine seq ?_
        refine region ?_
        refine sv (yAsg rfl) ?_
        refine nil ?_
        show Code.wp _ _ _ _ _
        refine block ?_
        refine loop (fun f w zz => ∃ (i : Nat), f 1 = .int .i64 now ∧ f 2 = .pointer (some ⟨b2, 0, none⟩) ∧ f 5 = .slice al L.length cl ∧ f 15 = .int .i64 (i : Int) ∧ StX [] w0 w [rowI (.slice al L.length cl) 38 3 L.length (L.flatMap slotC), blk b2 [.int .i64 t.polders, .slice a1 t.chans.length cap1, .slice a2 t.towns.length cap2, .slice a3 t.floods.length cap3] 26] ∧ (i ≤ L.length) ∧ zz = L.length - i) _ ⟨_, rfl, 0, h1, h2, h5, rfl, hS, (Nat.zero_le _), rfl⟩ ?_
        clear hS
        rintro f w _ ⟨i, h1, h2, h5, h15, hS, hi, rfl⟩
        refine seq ?_
        refine seq ?_
        refine region ?_
        refine sv (yMove h15) ?_
        refine sv (yMove h5) ?_
        refine sv (yLen rfl Tryz.underlying27) ?_
        refine sv (yLss rfl rfl) ?_
        refine nil ?_
        show Code.wp _ _ _ _ _
        refine cond rfl (fun c184 => ?_) (fun c184 => ?_)
        ·
          simp only [Bool.and_eq_true, Bool.or_eq_true, Bool.and_eq_false_iff, Bool.or_eq_false_iff, decide_eq_true_eq, decide_eq_false_iff_not, Bool.not_eq_true, Bool.not_eq_false, Bool.not_not, Bool.not_eq_eq_eq_not, Bool.not_true, Bool.not_false, Bool.false_eq_true, Bool.true_eq_false, ne_eq, Decidable.not_not, not_false_eq_true, not_true_eq_false] at c184
          obtain ⟨x, hx, -⟩ := drop_of (l := L) (k := i) (by omega)
          have hxm := List.mem_of_getElem? hx
          obtain ⟨gl, hae, -⟩ := row_get (hS.row (.slice al L.length cl)) (by omega)
          have hxc := chan_mem hok (hit.fits x hxm).1
          have hxr := hit.room x hxm
          obtain ⟨bc, oc, csc, hac, hlc, hcsc, hRc, -⟩ := sl_at hsh (chn_i (t := t) hxc)
          obtain ⟨rfl, -⟩ := hRc
          refine skip ?_
          show Code.wp _ _ _ _ _
          refine seq ?_
          refine block ?_
          refine seq ?_
          refine region ?_
          refine sv (yAsg rfl) ?_
          refine nil ?_
          show Code.wp _ _ _ _ _
          refine seq ?_
          refine seq ?_
          refine region ?_
          refine sv (yAsg rfl) ?_
          refine nil ?_
          show Code.wp _ _ _ _ _
          refine block ?_
          refine loop (fun f w zz => ∃ (k : Nat), f 1 = .int .i64 now ∧ f 2 = .pointer (some ⟨b2, 0, none⟩) ∧ f 5 = .slice al L.length cl ∧ f 15 = .int .i64 (i : Int) ∧ f 16 = .int .i64 (usedN (L.take k) x.pl : Int) ∧ f 17 = .int .i64 (k : Int) ∧ StX [] w0 w [rowI (.slice al L.length cl) 38 3 L.length (L.flatMap slotC), blk b2 [.int .i64 t.polders, .slice a1 t.chans.length cap1, .slice a2 t.towns.length cap2, .slice a3 t.floods.length cap3] 26] ∧ (k ≤ L.length) ∧ zz = L.length - k) _ ⟨_, rfl, 0, h1, h2, h5, h15, rfl, rfl, hS, (Nat.zero_le _), rfl⟩ ?_
          clear hS
          rintro f w _ ⟨k, h1, h2, h5, h15, h16, h17, hS, hk, rfl⟩
          refine seq ?_
          refine seq ?_
          refine region ?_
          refine sv (yMove h17) ?_
          refine sv (yMove h5) ?_
          refine sv (yLen rfl Tryz.underlying27) ?_
          refine sv (yLss rfl rfl) ?_
          refine nil ?_
          show Code.wp _ _ _ _ _
          refine cond rfl (fun c190 => ?_) (fun c190 => ?_)
          ·
            simp only [Bool.and_eq_true, Bool.or_eq_true, Bool.and_eq_false_iff, Bool.or_eq_false_iff, decide_eq_true_eq, decide_eq_false_iff_not, Bool.not_eq_true, Bool.not_eq_false, Bool.not_not, Bool.not_eq_eq_eq_not, Bool.not_true, Bool.not_false, Bool.false_eq_true, Bool.true_eq_false, ne_eq, Decidable.not_not, not_false_eq_true, not_true_eq_false] at c190
            obtain ⟨z, hz, -⟩ := drop_of (l := L) (k := k) (by omega)
            have hub : usedN (L.take k) x.pl ≤ k := Nat.le_trans (List.length_filter_le _ _) (by simp; omega)
            refine skip ?_
            show Code.wp _ _ _ _ _
            refine seq ?_
            refine block ?_
            refine seq ?_
            refine region_draw mixed (by kernel_rfl) hS ?_
            refine qv (fun w hS => (yMove h5)) ?_
            refine qv (fun w hS => (yMove h17)) ?_
            refine qv (fun w hS => (yIxa rfl hae rfl Tryz.runUnderlying27 Tryz.sizeOf38 (by omega) (by omega))) ?_
            refine qv (fun w hS => (fa38_1 rfl)) ?_
            refine qv (fun w hS => (yLd rfl Tryz.isAgg3 ((flat_cells slotC_len (row_at (hS.row (.slice al L.length cl)) hae (by omega)) hz).at (j := 1) rfl))) ?_
            refine qv (fun w hS => (yMove h5)) ?_
            refine qv (fun w hS => (yMove h15)) ?_
            refine qv (fun w hS => (yIxa rfl hae rfl Tryz.runUnderlying27 Tryz.sizeOf38 (by omega) (by omega))) ?_
            refine qv (fun w hS => (fa38_1 rfl)) ?_
            refine qv (fun w hS => (yLd rfl Tryz.isAgg3 ((flat_cells slotC_len (row_at (hS.row (.slice al L.length cl)) hae (by omega)) hx).at (j := 1) rfl))) ?_
            refine qv (fun w hS => (yEql rfl rfl)) ?_
            refine qv (fun w hS => (yMove rfl)) ?_
            refine qg rfl rfl rfl (fun g w hS => (yMove h5)) (fun v205 g205 => ?_)
            refine qg rfl rfl rfl (fun g w hS => (yMove h17)) (fun v206 g206 => ?_)
            refine qg rfl rfl rfl (fun g w hS => (yIxa (g205.1 g) hae (g206.1 g) Tryz.runUnderlying27 Tryz.sizeOf38 (by omega) (by omega))) (fun v207 g207 => ?_)
            refine qg rfl rfl rfl (fun g w hS => (fa38_2 (g207.1 g))) (fun v208 g208 => ?_)
            refine qg rfl rfl rfl (fun g w hS => (yLd (g208.1 g) Tryz.isAgg3 ((flat_cells slotC_len (row_at (hS.row (.slice al L.length cl)) hae (by omega)) hz).at (j := 2) rfl))) (fun v209 g209 => ?_)
            refine qg rfl rfl rfl (fun g w hS => (yMove h5)) (fun v210 g210 => ?_)
            refine qg rfl rfl rfl (fun g w hS => (yMove h15)) (fun v211 g211 => ?_)
            refine qg rfl rfl rfl (fun g w hS => (yIxa (g210.1 g) hae (g211.1 g) Tryz.runUnderlying27 Tryz.sizeOf38 (by omega) (by omega))) (fun v212 g212 => ?_)
            refine qg rfl rfl rfl (fun g w hS => (fa38_2 (g212.1 g))) (fun v213 g213 => ?_)
            refine qg rfl rfl rfl (fun g w hS => (yLd (g213.1 g) Tryz.isAgg3 ((flat_cells slotC_len (row_at (hS.row (.slice al L.length cl)) hae (by omega)) hx).at (j := 2) rfl))) (fun v214 g214 => ?_)
            refine qg rfl rfl rfl (fun g w hS => (yEql (g209.1 g) (g214.1 g))) (fun v215 g215 => ?_)
            refine qv (fun w hS => (yAnd rfl (fun hB => (g215.1 hB)) rfl)) ?_
            clear hS; refine qnil (fun w hS => ?_)
            show Code.wp _ _ _ _ _
            refine cond rfl (fun c216 => ?_) (fun c216 => ?_)
            ·
              simp only [Bool.and_eq_true, Bool.or_eq_true, Bool.and_eq_false_iff, Bool.or_eq_false_iff, decide_eq_true_eq, decide_eq_false_iff_not, Bool.not_eq_true, Bool.not_eq_false, Bool.not_not, Bool.not_eq_eq_eq_not, Bool.not_true, Bool.not_false, Bool.false_eq_true, Bool.true_eq_false, ne_eq, Decidable.not_not, not_false_eq_true, not_true_eq_false] at c216
              have hpq : z.pl = x.pl := Prod.ext c216.1 c216.2
              refine region ?_
              refine sv (yMove h16) ?_
              refine sv (yAdd rfl rfl ⟨by omega, by omega⟩) ?_
              refine sv (yAsg rfl) ?_
              refine nil ?_
              show Code.wp _ _ _ _ _
              refine region ?_
              refine sv (yMove h17) ?_
              refine sv (yAdd rfl rfl ⟨by omega, by omega⟩) ?_
              refine sv (yAsg rfl) ?_
              refine nil ?_
              exact ⟨_, _, rfl, ⟨k + 1, h1, h2, h5, h15, (rfl.trans (congrArg (Value.int .i64) (by rw [take_snoc hz, usedN_snoc, if_pos hpq]; push_cast; omega))), rfl, hS, (by omega), rfl⟩, by omega⟩
            ·
              simp only [Bool.and_eq_true, Bool.or_eq_true, Bool.and_eq_false_iff, Bool.or_eq_false_iff, decide_eq_true_eq, decide_eq_false_iff_not, Bool.not_eq_true, Bool.not_eq_false, Bool.not_not, Bool.not_eq_eq_eq_not, Bool.not_true, Bool.not_false, Bool.false_eq_true, Bool.true_eq_false, ne_eq, Decidable.not_not, not_false_eq_true, not_true_eq_false] at c216
              have hpq : ¬ z.pl = x.pl := fun hh => by
                have h1 : z.channel = x.channel := congrArg Prod.fst hh
                have h2 : z.sent = x.sent := congrArg Prod.snd hh
                omega
              refine skip ?_
              show Code.wp _ _ _ _ _
              refine region ?_
              refine sv (yMove h17) ?_
              refine sv (yAdd rfl rfl ⟨by omega, by omega⟩) ?_
              refine sv (yAsg rfl) ?_
              refine nil ?_
              exact ⟨_, _, rfl, ⟨k + 1, h1, h2, h5, h15, (h16.trans (congrArg (Value.int .i64) (by rw [take_snoc hz, usedN_snoc, if_neg hpq]; push_cast; omega))), rfl, hS, (by omega), rfl⟩, by omega⟩
          ·
            simp only [Bool.and_eq_true, Bool.or_eq_true, Bool.and_eq_false_iff, Bool.or_eq_false_iff, decide_eq_true_eq, decide_eq_false_iff_not, Bool.not_eq_true, Bool.not_eq_false, Bool.not_not, Bool.not_eq_eq_eq_not, Bool.not_true, Bool.not_false, Bool.false_eq_true, Bool.true_eq_false, ne_eq, Decidable.not_not, not_false_eq_true, not_true_eq_false] at c190
            obtain rfl : k = L.length := by omega
            rw [List.take_length] at h16
            refine exit ?_
            show Code.wp _ _ _ _ _
            refine seq ?_
            refine region_draw mixed (by kernel_rfl) hS ?_
            refine qv (fun w hS => (yMove h16)) ?_
            refine qv (fun w hS => (fa26_1 h2)) ?_
            refine qv (fun w hS => (yLdB rfl Tryz.isAgg22 (hS.at _) rfl)) ?_
            refine qv (fun w hS => (yMove h5)) ?_
            refine qv (fun w hS => (yMove h15)) ?_
            refine qv (fun w hS => (yIxa rfl hae rfl Tryz.runUnderlying27 Tryz.sizeOf38 (by omega) (by omega))) ?_
            refine qv (fun w hS => (fa38_1 rfl)) ?_
            refine qv (fun w hS => (yLd rfl Tryz.isAgg3 ((flat_cells slotC_len (row_at (hS.row (.slice al L.length cl)) hae (by omega)) hx).at (j := 1) rfl))) ?_
            refine qv (fun w hS => (yIxa rfl hac rfl Tryz.runUnderlying22 Tryz.sizeOf41 (by omega) (by omega))) ?_
            refine qv (fun w hS => (fa41_2 rfl)) ?_
            refine qv (fun w hS => (yLd rfl Tryz.isAgg3 ((hcsc.ext hS.ext).at (j := 2) rfl))) ?_
            refine qv (fun w hS => (yGtr rfl rfl)) ?_
            clear hS; refine qnil (fun w hS => ?_)
            show Code.wp _ _ _ _ _
            refine cond rfl (fun c230 => ?_) (fun c230 => ?_)
            ·
              simp only [Bool.and_eq_true, Bool.or_eq_true, Bool.and_eq_false_iff, Bool.or_eq_false_iff, decide_eq_true_eq, decide_eq_false_iff_not, Bool.not_eq_true, Bool.not_eq_false, Bool.not_not, Bool.not_eq_eq_eq_not, Bool.not_true, Bool.not_false, Bool.false_eq_true, Bool.true_eq_false, ne_eq, Decidable.not_not, not_false_eq_true, not_true_eq_false] at c230
              exfalso; omega
            ·
              simp only [Bool.and_eq_true, Bool.or_eq_true, Bool.and_eq_false_iff, Bool.or_eq_false_iff, decide_eq_true_eq, decide_eq_false_iff_not, Bool.not_eq_true, Bool.not_eq_false, Bool.not_not, Bool.not_eq_eq_eq_not, Bool.not_true, Bool.not_false, Bool.false_eq_true, Bool.true_eq_false, ne_eq, Decidable.not_not, not_false_eq_true, not_true_eq_false] at c230
              refine skip ?_
              show Code.wp _ _ _ _ _
              refine region ?_
              refine sv (yMove h15) ?_
              refine sv (yAdd rfl rfl ⟨by omega, by omega⟩) ?_
              refine sv (yAsg rfl) ?_
              refine nil ?_
              exact ⟨_, _, rfl, ⟨i + 1, h1, h2, h5, rfl, hS, (by omega), rfl⟩, by omega⟩
        ·
          simp only [Bool.and_eq_true, Bool.or_eq_true, Bool.and_eq_false_iff, Bool.or_eq_false_iff, decide_eq_true_eq, decide_eq_false_iff_not, Bool.not_eq_true, Bool.not_eq_false, Bool.not_not, Bool.not_eq_eq_eq_not, Bool.not_true, Bool.not_false, Bool.false_eq_true, Bool.true_eq_false, ne_eq, Decidable.not_not, not_false_eq_true, not_true_eq_false] at c184
          refine exit ?_
          show Code.wp _ _ _ _ _
          refine seq ?_
          refine region ?_
          refine scall Tryz.call20 .nil (c_Awake (hg.ext hS.ext)) ?_
          rintro _ w ⟨rfl, hE⟩; replace hS := hS.step hE; clear hE
          refine sv (yAsg rfl) ?_
          refine nil ?_
          show Code.wp _ _ _ _ _
          refine wp_ret ?_
          exact retV (res1 rfl rfl) hS.ext
end Go.Proofs.YtmoilbakmlekbaaGreatDoor
/- part A24 -/
namespace Bx
open Go Go.RowKit
theorem inB_not {a lo hi : Int} : (!inB a lo hi) = outB a lo hi := by
  rw [Bool.eq_iff_iff]
  simp only [Bool.not_eq_true', inB, outB, Bool.and_eq_false_iff, Bool.or_eq_true, decide_eq_true_eq, decide_eq_false_iff_not]
  omega
def errR {α : Type} (nm : α → ByteArray) (rest : α → Int) (l : List α) (i : Nat) (x : α) : Int := if (!isName (nm x)) = true then 6 else if memB (nm x) ((l.take i).map nm) = true then 5 else rest x
theorem errR_form {α : Type} {nm : α → ByteArray} {rest : α → Int} {l : List α} {i : Nat} {x : α} (h : (!isName (nm x)) = true) : errR nm rest l i x = 6 := if_pos h
theorem errR_twice {α : Type} {nm : α → ByteArray} {rest : α → Int} {l : List α} {i k : Nat} {x u : α} (h : (!isName (nm x)) = false) (hu : l[k]? = some u) (hk : k < i) (he : nm u = nm x) : errR nm rest l i x = 5 := by
  unfold errR
  rw [if_neg (by rw [h]; decide), if_pos]
  rw [memB_iff, ← he]
  exact List.mem_map.2 ⟨u, List.mem_of_getElem? (i := k) (by rw [List.getElem?_take, if_pos hk]; exact hu), rfl⟩
theorem errR_rest {α : Type} {nm : α → ByteArray} {rest : α → Int} {l : List α} {i : Nat} {x : α} (h : (!isName (nm x)) = false) (hn : ∀ k, k < i → ∀ u, l[k]? = some u → nm u ≠ nm x) : errR nm rest l i x = rest x := by
  unfold errR
  rw [if_neg (by rw [h]; decide), if_neg]
  rw [memB_iff]
  intro hm
  obtain ⟨u, hu, he⟩ := List.mem_map.1 hm
  obtain ⟨k, hk, rfl⟩ := List.getElem_of_mem hu
  rw [List.length_take] at hk
  rw [List.getElem_take] at he
  exact hn k (by omega) _ (List.getElem?_eq_getElem (by omega)) he
theorem namedR_step {α : Type} {nm : α → ByteArray} {rest : α → Int} {l : List α} {k : Nat} {x : α} (hx : l[k]? = some x) (hd : l.drop k = x :: l.drop (k + 1)) (h0 : errR nm rest l k x = 0) :
    namedR nm rest (l.drop k) ((l.take k).map nm) k = namedR nm rest (l.drop (k + 1)) ((l.take (k + 1)).map nm) ((k + 1 : Nat) : Int) := by
  rw [hd, namedR, namedR_take hx]
  unfold errR at h0
  split at h0
  · cases h0
  split at h0
  · cases h0
  rename_i h1 h2
  rw [if_neg h1, if_neg h2, if_neg (not_not_intro h0)]
  rfl
theorem namedR_hit {α : Type} {nm : α → ByteArray} {rest : α → Int} {l : List α} {k : Nat} {x : α} (hd : l.drop k = x :: l.drop (k + 1)) (h0 : errR nm rest l k x ≠ 0) :
    namedR nm rest (l.drop k) ((l.take k).map nm) k = ((k : Int), errR nm rest l k x) := by
  rw [hd, namedR]
  unfold errR at h0 ⊢
  split
  · rename_i h; rfl
  rename_i h1
  rw [if_neg h1] at h0
  split
  · rfl
  rename_i h2
  rw [if_neg h2] at h0
  rw [if_pos h0]
theorem namedR_end {α : Type} {nm : α → ByteArray} {rest : α → Int} {l : List α} {k : Nat} (hk : l.length ≤ k) : namedR nm rest (l.drop k) ((l.take k).map nm) k = (0, 0) := by
  rw [List.drop_of_length_le hk]; rfl
theorem nodup_not {l : List Int} {j : Nat} {x : Int} (hx : l[j]? = some x) (hm : x ∈ l.take j) : ¬ l.Nodup := by
  intro hn
  obtain ⟨i, hi, e⟩ := List.getElem_of_mem hm
  rw [List.length_take] at hi
  rw [List.getElem_take] at e
  obtain ⟨hj, rfl⟩ := List.getElem?_eq_some_iff.1 hx
  exact List.pairwise_iff_getElem.1 hn i j (by omega) hj (by omega) e
theorem nodup_yes {l : List Int} (h : ∀ j, j < l.length → ∀ x, l[j]? = some x → x ∉ l.take j) : l.Nodup := by
  refine List.pairwise_iff_getElem.2 (fun i j hi hj hij e => ?_)
  exact h j hj _ (List.getElem?_eq_getElem hj) (List.mem_of_getElem? (i := i) (by rw [List.getElem?_take, if_pos hij, List.getElem?_eq_getElem hi, e]))
theorem hasB_take {l : List Int} {j : Nat} {x n : Int} (h : l[j]? = some x) : (l.take (j + 1)).any (fun y => decide (y = n)) = ((l.take j).any (fun y => decide (y = n)) || decide (x = n)) := by
  rw [take_snoc h, List.any_append, List.any_cons, List.any_nil, Bool.or_false]
theorem any_mem {l : List Int} {n : Int} : (l.any fun y => decide (y = n)) = true ↔ n ∈ l := by simp [List.any_eq_true]
theorem chanE_in (x : Chan) : ((!inB x.delay 0 50) || (!inB x.room 0 20)) = (outB x.delay 0 50 || outB x.room 0 20) := by rw [inB_not, inB_not]
def nonB (t : Task) (x : Town) (k : Nat) : Bool := (!inB x.polder 0 (t.polders - 1)) || (x.chans.take k).any fun c => outB c 0 ((t.chans.length : Int) - 1)
def dupB (x : Town) (k : Nat) : Bool := decide (¬ (x.chans.take k).Nodup)
theorem nonB_zero (t : Task) (x : Town) : nonB t x 0 = (!inB x.polder 0 (t.polders - 1)) := by unfold nonB; simp
theorem nonB_succ {t : Task} {x : Town} {k : Nat} {c : Int} (h : x.chans[k]? = some c) : nonB t x (k + 1) = (nonB t x k || !inB c 0 ((t.chans.length : Int) - 1)) := by
  unfold nonB
  rw [take_snoc h, List.any_append, inB_not (a := c)]
  simp [Bool.or_assoc]
theorem dupB_zero (x : Town) : dupB x 0 = false := by unfold dupB; simp
theorem dupB_succ {x : Town} {k : Nat} {c : Int} (h : x.chans[k]? = some c) : dupB x (k + 1) = (dupB x k || (x.chans.take k).any fun y => decide (y = c)) := by
  unfold dupB
  rw [take_snoc h, Bool.eq_iff_iff, Bool.or_eq_true, decide_eq_true_eq, decide_eq_true_eq, any_mem, List.nodup_append]
  constructor
  · intro hn
    by_cases hc : c ∈ x.chans.take k
    · exact .inr hc
    · refine .inl fun hd => hn ⟨hd, by simp, fun a ha b hb => ?_⟩
      rw [List.mem_singleton.1 hb]
      exact fun e => hc (e ▸ ha)
  · rintro (h1 | h1) ⟨h2, -, h3⟩
    · exact h1 h2
    · exact h3 c h1 c (List.mem_singleton.2 rfl) rfl
theorem townE_4 {t : Task} {x : Town} (h : nonB t x x.chans.length = true) : townE t.polders t.chans.length x = 4 := by
  unfold nonB at h; rw [List.take_length, inB_not] at h
  unfold townE; rw [if_pos h]
theorem townE_5 {t : Task} {x : Town} (h : nonB t x x.chans.length = false) (h2 : dupB x x.chans.length = true) : townE t.polders t.chans.length x = 5 := by
  unfold nonB at h; rw [List.take_length, inB_not] at h
  unfold dupB at h2; rw [List.take_length, decide_eq_true_eq] at h2
  unfold townE; rw [if_neg (by rw [h]; decide), if_pos h2]
theorem townE_7 {t : Task} {x : Town} (h : nonB t x x.chans.length = false) (h2 : dupB x x.chans.length = false) : townE t.polders t.chans.length x = if ((!inB x.travel 0 500) || (!inB x.lead 0 500)) = true then 7 else 0 := by
  unfold nonB at h; rw [List.take_length, inB_not] at h
  unfold dupB at h2; rw [List.take_length, decide_eq_false_iff_not] at h2
  unfold townE; rw [if_neg (by rw [h]; decide), if_neg h2, inB_not, inB_not]
end Bx
/- part Aw27 -/
namespace Go.Proofs.YtmoilbakmlekbaaGreatDoor
open Go Bx
/-- barrage/barrageref11.in -/
theorem c_rin {a lo hi : Int} {w0 : World} : CV Tryz.prog 66 #[.int .i64 a, .int .i64 lo, .int .i64 hi] w0 (.bool (inB a lo hi)) := by
  refine enter Tryz.func66 rfl Tryz.ntmps66 rfl ?_
  have hS := St.start w0
  refine seq ?_
  refine region ?_
  refine sv (yAsg rfl) ?_
  refine nil ?_
  show Code.wp _ _ _ _ _
  refine seq ?_
  refine region ?_
  refine sv (yMove rfl) ?_
  refine sv (yMove rfl) ?_
  refine sv (yGeq rfl rfl) ?_
  refine sv (yMove rfl) ?_
  refine sg rfl rfl rfl (fun g => (yMove rfl)) (fun v11 g11 => ?_)
  refine sg rfl rfl rfl (fun g => (yMove rfl)) (fun v12 g12 => ?_)
  refine sg rfl rfl rfl (fun g => (yLeq (g11.1 g) (g12.1 g))) (fun v13 g13 => ?_)
  refine sv (yAnd rfl (fun hB => (g13.1 hB)) rfl) ?_
  refine sv (yAsg rfl) ?_
  refine nil ?_
  show Code.wp _ _ _ _ _
  refine wp_ret ?_
  exact retV (res1 rfl rfl) hS.ext
/-- barrage/barrageref11.tick -/
theorem c_rtick {a : Int} {w0 : World} : CV Tryz.prog 73 #[.int .i64 a] w0 (.bool (inB a 0 200000)) := by
  refine enter Tryz.func73 rfl Tryz.ntmps73 rfl ?_
  have hS := St.start w0
  refine seq ?_
  refine region ?_
  refine sv (yAsg rfl) ?_
  refine nil ?_
  show Code.wp _ _ _ _ _
  refine seq ?_
  refine region ?_
  refine sv (yMove rfl) ?_
  refine scall Tryz.call66 (.cons rfl (.cons rfl (.cons rfl .nil))) c_rin ?_
  rintro _ w ⟨rfl, hE⟩; replace hS := hS.step hE; clear hE
  refine sv (yAsg rfl) ?_
  refine nil ?_
  show Code.wp _ _ _ _ _
  refine wp_ret ?_
  exact retV (res1 rfl rfl) hS.ext
set_option maxHeartbeats 1000000 in
/-- barrage/barrageref11.channel -/
theorem c_rchan {t : Task} {hv nv fv : Value} {i : Nat} {x : Chan} {w0 : World} (h : RTask w0 [.int .i64 t.polders, hv, nv, fv] t) (hx : t.chans[i]? = some x) : CV Tryz.prog 67 #[.agg [.int .i64 t.polders, hv, nv, fv].toArray, .int .i64 (i : Int)] w0 (.int .i64 (errR (·.name) chanE t.chans i x)) := by
  obtain ⟨hv', nv', fv', he0, hpol, hsh, hsn, hsf⟩ := id h
  obtain ⟨rfl, rfl, rfl⟩ : hv' = hv ∧ nv' = nv ∧ fv' = fv := by simpa [eq_comm] using he0
  obtain ⟨a1, cap1, rfl, hcap1, hmx1, hel1⟩ := id hsh
  obtain ⟨a2, cap2, rfl, hcap2, hmx2, hel2⟩ := id hsn
  obtain ⟨a3, cap3, rfl, hcap3, hmx3, hel3⟩ := id hsf
  have hil := (List.getElem?_eq_some_iff.1 hx).1
  obtain ⟨bq, oq, csq, haq, hlq, hcsq, hRq, -⟩ := sl_at hsh hx
  obtain ⟨rfl, hnm, -⟩ := hRq
  refine enter Tryz.func67 rfl Tryz.ntmps67 rfl ?_
  have hS := St.start w0
  refine seq ?_
  refine region ?_
  refine sbox hS rfl rfl ?_; clear hS; intro b2 w hS
  refine sv (yAsg rfl) ?_
  refine nil ?_
  show Code.wp _ _ _ _ _
  refine seq ?_
  refine region ?_
  refine sv (fa26_1 rfl) ?_
  refine sv (yLdB rfl Tryz.isAgg22 (hS.at _) rfl) ?_
  refine sv (yMove rfl) ?_
  refine sv (yIxa rfl haq rfl Tryz.runUnderlying22 Tryz.sizeOf41 (by omega) (by omega)) ?_
  refine sv (yLdA rfl Tryz.isAgg41 Tryz.sizeOf41 (hcsq.ext hS.ext) rfl) ?_
  refine salloc hS Tryz.zeroValue41 rfl ?_; clear hS; intro b5 w hS
  refine sst hS rfl rfl Tryz.sizeOf41 rfl rfl rfl rfl ?_; clear hS; intro w hS
  refine nil ?_
  show Code.wp _ _ _ _ _
  refine seq ?_
  refine seq ?_
  refine region ?_
  replace hS : StX [] w0 w (blk b5 (chanC x) 41 :: blk b2 [.int .i64 t.polders, .slice a1 t.chans.length cap1, .slice a2 t.towns.length cap2, .slice a3 t.floods.length cap3] 26 :: []) := hS
  refine sv (fa41_0 rfl) ?_
  refine sv (yLdB rfl Tryz.isAgg9 (hS.at _) rfl) ?_
  refine scall Tryz.call115 (.cons rfl .nil) (c_rName hnm) ?_
  rintro _ w ⟨rfl, hE⟩; replace hS := hS.step hE; clear hE
  refine sv (yNot rfl) ?_
  refine nil ?_
  show Code.wp _ _ _ _ _
  refine cond rfl (fun c15 => ?_) (fun c15 => ?_)
  ·
    refine seq ?_
    refine region ?_
    refine sv (yAsg rfl) ?_
    refine nil ?_
    show Code.wp _ _ _ _ _
    refine wp_ret (thenR ?_)
    exact retV (res1 rfl (eqI (errR_form c15))) hS.ext
  ·
    refine skip ?_
    show Code.wp _ _ _ _ _
    refine seq ?_
    refine seq ?_
    refine region ?_
    refine sv (yAsg rfl) ?_
    refine nil ?_
    show Code.wp _ _ _ _ _
    refine block ?_
    refine loop (fun f w zz => ∃ (k : Nat), f 1 = .int .i64 (i : Int) ∧ f 2 = .pointer (some ⟨b2, 0, none⟩) ∧ f 5 = .pointer (some ⟨b5, 0, none⟩) ∧ f 6 = .int .i64 (k : Int) ∧ StX [] w0 w [blk b5 (chanC x) 41, blk b2 [.int .i64 t.polders, .slice a1 t.chans.length cap1, .slice a2 t.towns.length cap2, .slice a3 t.floods.length cap3] 26] ∧ (k ≤ i) ∧ (∀ q, q < k → ∀ u : Chan, t.chans[q]? = some u → u.name ≠ x.name) ∧ zz = i - k) _ ⟨_, rfl, 0, rfl, rfl, rfl, rfl, hS, (Nat.zero_le _), (fun q hq => absurd hq (Nat.not_lt_zero q)), rfl⟩ ?_
    clear hS
    rintro f w _ ⟨k, h1, h2, h5, h6, hS, hk, hN, rfl⟩
    refine seq ?_
    refine seq ?_
    refine region ?_
    refine sv (yMove h6) ?_
    refine sv (yMove h1) ?_
    refine sv (yLss rfl rfl) ?_
    refine nil ?_
    show Code.wp _ _ _ _ _
    refine cond rfl (fun c18 => ?_) (fun c18 => ?_)
    ·
      simp only [Bool.and_eq_true, Bool.or_eq_true, Bool.and_eq_false_iff, Bool.or_eq_false_iff, decide_eq_true_eq, decide_eq_false_iff_not, Bool.not_eq_true, Bool.not_eq_false, Bool.not_not, Bool.not_eq_eq_eq_not, Bool.not_true, Bool.not_false, Bool.false_eq_true, Bool.true_eq_false, ne_eq, Decidable.not_not, not_false_eq_true, not_true_eq_false] at c18
      refine skip ?_
      show Code.wp _ _ _ _ _
      refine seq ?_
      refine block ?_
      refine seq ?_
      refine region_draw mixed (by kernel_rfl) hS ?_
      obtain ⟨u, hxu, -⟩ := drop_of (l := t.chans) (k := k) (by omega)
      obtain ⟨bu, ou, csu, hau, hlu, hcsu, hRu, -⟩ := sl_at hsh hxu
      obtain ⟨rfl, -⟩ := hRu
      refine qv (fun w hS => (fa26_1 h2)) ?_
      refine qv (fun w hS => (yLdB rfl Tryz.isAgg22 (hS.at _) rfl)) ?_
      refine qv (fun w hS => (yMove h6)) ?_
      refine qv (fun w hS => (yIxa rfl hau rfl Tryz.runUnderlying22 Tryz.sizeOf41 (by omega) (by omega))) ?_
      refine qv (fun w hS => (fa41_0 rfl)) ?_
      refine qv (fun w hS => (yLd rfl Tryz.isAgg9 ((hcsu.ext hS.ext).at (j := 0) rfl))) ?_
      refine qv (fun w hS => (fa41_0 h5)) ?_
      refine qv (fun w hS => (yLdB rfl Tryz.isAgg9 (hS.at _) rfl)) ?_
      refine qv (fun w hS => (ySEq rfl rfl)) ?_
      clear hS; refine qnil (fun w hS => ?_)
      show Code.wp _ _ _ _ _
      refine cond rfl (fun c29 => ?_) (fun c29 => ?_)
      ·
        simp only [Bool.and_eq_true, Bool.or_eq_true, Bool.and_eq_false_iff, Bool.or_eq_false_iff, decide_eq_true_eq, decide_eq_false_iff_not, Bool.not_eq_true, Bool.not_eq_false, Bool.not_not, Bool.not_eq_eq_eq_not, Bool.not_true, Bool.not_false, Bool.false_eq_true, Bool.true_eq_false, ne_eq, Decidable.not_not, not_false_eq_true, not_true_eq_false] at c29
        refine seq ?_
        refine region ?_
        refine sv (yAsg rfl) ?_
        refine nil ?_
        show Code.wp _ _ _ _ _
        refine wp_ret (blockR (thenR (thenR (blockR (thenR ?_)))))
        exact retV (res1 rfl (eqI (errR_twice c15 hxu (by omega) c29))) hS.ext
      ·
        simp only [Bool.and_eq_true, Bool.or_eq_true, Bool.and_eq_false_iff, Bool.or_eq_false_iff, decide_eq_true_eq, decide_eq_false_iff_not, Bool.not_eq_true, Bool.not_eq_false, Bool.not_not, Bool.not_eq_eq_eq_not, Bool.not_true, Bool.not_false, Bool.false_eq_true, Bool.true_eq_false, ne_eq, Decidable.not_not, not_false_eq_true, not_true_eq_false] at c29
        refine skip ?_
        show Code.wp _ _ _ _ _
        refine region ?_
        refine sv (yMove h6) ?_
        refine sv (yAdd rfl rfl ⟨by omega, by omega⟩) ?_
        refine sv (yAsg rfl) ?_
        refine nil ?_
        exact ⟨_, _, rfl, ⟨k + 1, h1, h2, h5, rfl, hS, (by omega), (snoc hN (fun v hv => by cases Option.some.inj (hxu.symm.trans hv); exact c29)), rfl⟩, by omega⟩
    ·
      simp only [Bool.and_eq_true, Bool.or_eq_true, Bool.and_eq_false_iff, Bool.or_eq_false_iff, decide_eq_true_eq, decide_eq_false_iff_not, Bool.not_eq_true, Bool.not_eq_false, Bool.not_not, Bool.not_eq_eq_eq_not, Bool.not_true, Bool.not_false, Bool.false_eq_true, Bool.true_eq_false, ne_eq, Decidable.not_not, not_false_eq_true, not_true_eq_false] at c18
      have hne : errR (·.name) chanE t.chans i x = chanE x := errR_rest c15 (fun q hq => hN q (by omega))
      refine exit ?_
      show Code.wp _ _ _ _ _
      refine seq ?_
      refine seq ?_
      refine region ?_
      refine sv (fa41_1 h5) ?_
      refine sv (yLdB rfl Tryz.isAgg3 (hS.at _) rfl) ?_
      refine scall Tryz.call66 (.cons rfl (.cons rfl (.cons rfl .nil))) c_rin ?_
      rintro _ w ⟨rfl, hE⟩; replace hS := hS.step hE; clear hE
      refine sv (yNot rfl) ?_
      refine sv (yMove rfl) ?_
      refine sg rfl rfl rfl (fun g => (fa41_2 h5)) (fun v35 g35 => ?_)
      refine sg rfl rfl rfl (fun g => (yLdB (g35.1 g) Tryz.isAgg3 (hS.at _) rfl)) (fun v36 g36 => ?_)
      refine sgc hS rfl rfl rfl Tryz.call66 (fun g => (.cons (g36.1 g) (.cons rfl (.cons rfl .nil)))) (fun g => c_rin) ?_; clear hS; intro v37 w hS g37
      refine sg rfl rfl rfl (fun g => (yNot (g37.1 g))) (fun v38 g38 => ?_)
      refine sv (yOr rfl rfl (fun hB => (g38.1 hB))) ?_
      refine nil ?_
      show Code.wp _ _ _ _ _
      refine cond rfl (fun c39 => ?_) (fun c39 => ?_)
      ·
        refine seq ?_
        refine region ?_
        refine sv (yAsg rfl) ?_
        refine nil ?_
        show Code.wp _ _ _ _ _
        refine wp_ret (thenR ?_)
        exact retV (res1 rfl (eqI (hne.trans (if_pos (by rw [← chanE_in]; exact c39))))) hS.ext
      ·
        refine skip ?_
        show Code.wp _ _ _ _ _
        refine seq ?_
        refine region ?_
        refine sv (yAsg rfl) ?_
        refine nil ?_
        show Code.wp _ _ _ _ _
        refine wp_ret ?_
        exact retV (res1 rfl (eqI (hne.trans (if_neg (by rw [← chanE_in]; rw [show ((!inB x.delay 0 50) || (!inB x.room 0 20)) = false from c39]; decide))))) hS.ext
end Go.Proofs.YtmoilbakmlekbaaGreatDoor
/- part Aw28 -/
namespace Go.Proofs.YtmoilbakmlekbaaGreatDoor
open Go Bx
set_option maxHeartbeats 2000000 in
/-- barrage/barrageref11.town -/
theorem c_rtown {t : Task} {hv nv fv : Value} {i : Nat} {x : Town} {w0 : World} (h : RTask w0 [.int .i64 t.polders, hv, nv, fv] t) (hx : t.towns[i]? = some x) (hp : 0 ≤ t.polders ∧ t.polders ≤ 6) : CV Tryz.prog 68 #[.agg [.int .i64 t.polders, hv, nv, fv].toArray, .int .i64 (i : Int)] w0 (.int .i64 (errR (·.name) (townE t.polders t.chans.length) t.towns i x)) := by
  obtain ⟨hv', nv', fv', he0, hpol, hsh, hsn, hsf⟩ := id h
  obtain ⟨rfl, rfl, rfl⟩ : hv' = hv ∧ nv' = nv ∧ fv' = fv := by simpa [eq_comm] using he0
  obtain ⟨a1, cap1, rfl, hcap1, hmx1, hel1⟩ := id hsh
  obtain ⟨a2, cap2, rfl, hcap2, hmx2, hel2⟩ := id hsn
  obtain ⟨a3, cap3, rfl, hcap3, hmx3, hel3⟩ := id hsf
  have hil := (List.getElem?_eq_some_iff.1 hx).1
  obtain ⟨bq, oq, csq, haq, hlq, hcsq, hRq, -⟩ := sl_at hsn hx
  obtain ⟨dv, rfl, hnm, -, -, -, hsd, -⟩ := hRq
  obtain ⟨ad, cd, rfl, hdcap, hdmx, held⟩ := id hsd
  refine enter Tryz.func68 rfl Tryz.ntmps68 rfl ?_
  have hS := St.start w0
  refine seq ?_
  refine region ?_
  refine sbox hS rfl rfl ?_; clear hS; intro b2 w hS
  refine sv (yAsg rfl) ?_
  refine nil ?_
  show Code.wp _ _ _ _ _
  refine seq ?_
  refine region ?_
  refine sv (fa26_2 rfl) ?_
  refine sv (yLdB rfl Tryz.isAgg23 (hS.at _) rfl) ?_
  refine sv (yMove rfl) ?_
  refine sv (yIxa rfl haq rfl Tryz.runUnderlying23 Tryz.sizeOf36 (by omega) (by omega)) ?_
  refine sv (yLdA rfl Tryz.isAgg36 Tryz.sizeOf36 (hcsq.ext hS.ext) rfl) ?_
  refine salloc hS Tryz.zeroValue36 rfl ?_; clear hS; intro b5 w hS
  refine sst hS rfl rfl Tryz.sizeOf36 rfl rfl rfl rfl ?_; clear hS; intro w hS
  refine nil ?_
  show Code.wp _ _ _ _ _
  refine seq ?_
  refine seq ?_
  refine region ?_
  replace hS : StX [] w0 w (blk b5 [.string x.name, .int .i64 x.polder, .int .i64 x.travel, .int .i64 x.lead, .slice ad x.chans.length cd] 36 :: blk b2 [.int .i64 t.polders, .slice a1 t.chans.length cap1, .slice a2 t.towns.length cap2, .slice a3 t.floods.length cap3] 26 :: []) := hS
  refine sv (fa36_0 rfl) ?_
  refine sv (yLdB rfl Tryz.isAgg9 (hS.at _) rfl) ?_
  refine scall Tryz.call115 (.cons rfl .nil) (c_rName hnm) ?_
  rintro _ w ⟨rfl, hE⟩; replace hS := hS.step hE; clear hE
  refine sv (yNot rfl) ?_
  refine nil ?_
  show Code.wp _ _ _ _ _
  refine cond rfl (fun c19 => ?_) (fun c19 => ?_)
  ·
    refine seq ?_
    refine region ?_
    refine sv (yAsg rfl) ?_
    refine nil ?_
    show Code.wp _ _ _ _ _
    refine wp_ret (thenR ?_)
    exact retV (res1 rfl (eqI (errR_form c19))) hS.ext
  ·
    refine skip ?_
    show Code.wp _ _ _ _ _
    refine seq ?_
    refine seq ?_
    refine region ?_
    refine sv (yAsg rfl) ?_
    refine nil ?_
    show Code.wp _ _ _ _ _
    refine block ?_
    refine loop (fun f w zz => ∃ (k : Nat), f 1 = .int .i64 (i : Int) ∧ f 2 = .pointer (some ⟨b2, 0, none⟩) ∧ f 5 = .pointer (some ⟨b5, 0, none⟩) ∧ f 6 = .int .i64 (k : Int) ∧ StX [] w0 w [blk b5 [.string x.name, .int .i64 x.polder, .int .i64 x.travel, .int .i64 x.lead, .slice ad x.chans.length cd] 36, blk b2 [.int .i64 t.polders, .slice a1 t.chans.length cap1, .slice a2 t.towns.length cap2, .slice a3 t.floods.length cap3] 26] ∧ (k ≤ i) ∧ (∀ q, q < k → ∀ u : Town, t.towns[q]? = some u → u.name ≠ x.name) ∧ zz = i - k) _ ⟨_, rfl, 0, rfl, rfl, rfl, rfl, hS, (Nat.zero_le _), (fun q hq => absurd hq (Nat.not_lt_zero q)), rfl⟩ ?_
    clear hS
    rintro f w _ ⟨k, h1, h2, h5, h6, hS, hk, hN, rfl⟩
    refine seq ?_
    refine seq ?_
    refine region ?_
    refine sv (yMove h6) ?_
    refine sv (yMove h1) ?_
    refine sv (yLss rfl rfl) ?_
    refine nil ?_
    show Code.wp _ _ _ _ _
    refine cond rfl (fun c22 => ?_) (fun c22 => ?_)
    ·
      simp only [Bool.and_eq_true, Bool.or_eq_true, Bool.and_eq_false_iff, Bool.or_eq_false_iff, decide_eq_true_eq, decide_eq_false_iff_not, Bool.not_eq_true, Bool.not_eq_false, Bool.not_not, Bool.not_eq_eq_eq_not, Bool.not_true, Bool.not_false, Bool.false_eq_true, Bool.true_eq_false, ne_eq, Decidable.not_not, not_false_eq_true, not_true_eq_false] at c22
      refine skip ?_
      show Code.wp _ _ _ _ _
      refine seq ?_
      refine block ?_
      refine seq ?_
      refine region_draw mixed (by kernel_rfl) hS ?_
      obtain ⟨u, hxu, -⟩ := drop_of (l := t.towns) (k := k) (by omega)
      obtain ⟨bu, ou, csu, hau, hlu, hcsu, hRu, -⟩ := sl_at hsn hxu
      obtain ⟨duv, rfl, -⟩ := hRu
      refine qv (fun w hS => (fa26_2 h2)) ?_
      refine qv (fun w hS => (yLdB rfl Tryz.isAgg23 (hS.at _) rfl)) ?_
      refine qv (fun w hS => (yMove h6)) ?_
      refine qv (fun w hS => (yIxa rfl hau rfl Tryz.runUnderlying23 Tryz.sizeOf36 (by omega) (by omega))) ?_
      refine qv (fun w hS => (fa36_0 rfl)) ?_
      refine qv (fun w hS => (yLd rfl Tryz.isAgg9 ((hcsu.ext hS.ext).at (j := 0) rfl))) ?_
      refine qv (fun w hS => (fa36_0 h5)) ?_
      refine qv (fun w hS => (yLdB rfl Tryz.isAgg9 (hS.at _) rfl)) ?_
      refine qv (fun w hS => (ySEq rfl rfl)) ?_
      clear hS; refine qnil (fun w hS => ?_)
      show Code.wp _ _ _ _ _
      refine cond rfl (fun c33 => ?_) (fun c33 => ?_)
      ·
        simp only [Bool.and_eq_true, Bool.or_eq_true, Bool.and_eq_false_iff, Bool.or_eq_false_iff, decide_eq_true_eq, decide_eq_false_iff_not, Bool.not_eq_true, Bool.not_eq_false, Bool.not_not, Bool.not_eq_eq_eq_not, Bool.not_true, Bool.not_false, Bool.false_eq_true, Bool.true_eq_false, ne_eq, Decidable.not_not, not_false_eq_true, not_true_eq_false] at c33
        refine seq ?_
        refine region ?_
        refine sv (yAsg rfl) ?_
        refine nil ?_
        show Code.wp _ _ _ _ _
        refine wp_ret (blockR (thenR (thenR (blockR (thenR ?_)))))
        exact retV (res1 rfl (eqI (errR_twice c19 hxu (by omega) c33))) hS.ext
      ·
        simp only [Bool.and_eq_true, Bool.or_eq_true, Bool.and_eq_false_iff, Bool.or_eq_false_iff, decide_eq_true_eq, decide_eq_false_iff_not, Bool.not_eq_true, Bool.not_eq_false, Bool.not_not, Bool.not_eq_eq_eq_not, Bool.not_true, Bool.not_false, Bool.false_eq_true, Bool.true_eq_false, ne_eq, Decidable.not_not, not_false_eq_true, not_true_eq_false] at c33
        refine skip ?_
        show Code.wp _ _ _ _ _
        refine region ?_
        refine sv (yMove h6) ?_
        refine sv (yAdd rfl rfl ⟨by omega, by omega⟩) ?_
        refine sv (yAsg rfl) ?_
        refine nil ?_
        exact ⟨_, _, rfl, ⟨k + 1, h1, h2, h5, rfl, hS, (by omega), (snoc hN (fun v hv => by cases Option.some.inj (hxu.symm.trans hv); exact c33)), rfl⟩, by omega⟩
    ·
      simp only [Bool.and_eq_true, Bool.or_eq_true, Bool.and_eq_false_iff, Bool.or_eq_false_iff, decide_eq_true_eq, decide_eq_false_iff_not, Bool.not_eq_true, Bool.not_eq_false, Bool.not_not, Bool.not_eq_eq_eq_not, Bool.not_true, Bool.not_false, Bool.false_eq_true, Bool.true_eq_false, ne_eq, Decidable.not_not, not_false_eq_true, not_true_eq_false] at c22
      have hne : errR (·.name) (townE t.polders t.chans.length) t.towns i x = townE t.polders t.chans.length x := errR_rest c19 (fun q hq => hN q (by omega))
      refine exit ?_
      show Code.wp _ _ _ _ _
      refine seq ?_
      refine region ?_
      refine sv (fa36_1 h5) ?_
      refine sv (yLdB rfl Tryz.isAgg3 (hS.at _) rfl) ?_
      refine sv (fa26_0 h2) ?_
      refine sv (yLdB rfl Tryz.isAgg3 (hS.at _) rfl) ?_
      refine sv (ySub rfl rfl ⟨by omega, by omega⟩) ?_
      refine scall Tryz.call66 (.cons rfl (.cons rfl (.cons rfl .nil))) c_rin ?_
      rintro _ w ⟨rfl, hE⟩; replace hS := hS.step hE; clear hE
      refine sv (yNot rfl) ?_
      refine sv (yAsg rfl) ?_
      refine sv (yAsg rfl) ?_
      refine nil ?_
      show Code.wp _ _ _ _ _
      refine seq ?_
      refine seq ?_
      refine region ?_
      refine sv (yAsg rfl) ?_
      refine nil ?_
      show Code.wp _ _ _ _ _
      refine block ?_
      refine loop (fun f w zz => ∃ (k : Nat), f 2 = .pointer (some ⟨b2, 0, none⟩) ∧ f 5 = .pointer (some ⟨b5, 0, none⟩) ∧ f 7 = .bool (nonB t x k) ∧ f 8 = .bool (dupB x k) ∧ f 9 = .int .i64 (k : Int) ∧ StX [] w0 w [blk b5 [.string x.name, .int .i64 x.polder, .int .i64 x.travel, .int .i64 x.lead, .slice ad x.chans.length cd] 36, blk b2 [.int .i64 t.polders, .slice a1 t.chans.length cap1, .slice a2 t.towns.length cap2, .slice a3 t.floods.length cap3] 26] ∧ (k ≤ x.chans.length) ∧ zz = x.chans.length - k) _ ⟨_, rfl, 0, h2, h5, (rfl.trans (congrArg Value.bool (nonB_zero t x).symm)), (rfl.trans (congrArg Value.bool (dupB_zero x).symm)), rfl, hS, (Nat.zero_le _), rfl⟩ ?_
      clear hS
      rintro f w _ ⟨k, h2, h5, h7, h8, h9, hS, hk, rfl⟩
      refine seq ?_
      refine seq ?_
      refine region ?_
      refine sv (yMove h9) ?_
      refine sv (fa36_4 h5) ?_
      refine sv (yLdB rfl Tryz.isAgg34 (hS.at _) rfl) ?_
      refine sv (yLen rfl Tryz.underlying34) ?_
      refine sv (yLss rfl rfl) ?_
      refine nil ?_
      show Code.wp _ _ _ _ _
      refine cond rfl (fun c45 => ?_) (fun c45 => ?_)
      ·
        simp only [Bool.and_eq_true, Bool.or_eq_true, Bool.and_eq_false_iff, Bool.or_eq_false_iff, decide_eq_true_eq, decide_eq_false_iff_not, Bool.not_eq_true, Bool.not_eq_false, Bool.not_not, Bool.not_eq_eq_eq_not, Bool.not_true, Bool.not_false, Bool.false_eq_true, Bool.true_eq_false, ne_eq, Decidable.not_not, not_false_eq_true, not_true_eq_false] at c45
        obtain ⟨s, hxs, hds⟩ := drop_of (l := x.chans) (k := k) (by omega)
        obtain ⟨bs, os, css, has, hlens, hcss, hRs⟩ := held (k) (by omega)
        obtain rfl : s = x.chans[k] := (List.getElem?_eq_some_iff.1 hxs).2.symm
        generalize x.chans[k] = s at hxs hds hRs
        obtain ⟨rfl, hsi⟩ := hRs
        refine skip ?_
        show Code.wp _ _ _ _ _
        refine seq ?_
        refine block ?_
        refine seq ?_
        refine region_draw mixed (by kernel_rfl) hS ?_
        refine qv (fun w hS => (yMove h7)) ?_
        refine qv (fun w hS => (yMove rfl)) ?_
        refine qg rfl rfl rfl (fun g w hS => (fa36_4 h5)) (fun v50 g50 => ?_)
        refine qg rfl rfl rfl (fun g w hS => (yLdB (g50.1 g) Tryz.isAgg34 (hS.at _) rfl)) (fun v51 g51 => ?_)
        refine qg rfl rfl rfl (fun g w hS => (yMove h9)) (fun v52 g52 => ?_)
        refine qg rfl rfl rfl (fun g w hS => (yIxa (g51.1 g) has (g52.1 g) Tryz.runUnderlying34 Tryz.sizeOf3 (by omega) (by omega))) (fun v53 g53 => ?_)
        refine qg rfl rfl rfl (fun g w hS => (yLd (g53.1 g) Tryz.isAgg3 ((hcss.ext hS.ext).one))) (fun v54 g54 => ?_)
        refine qg rfl rfl rfl (fun g w hS => (fa26_1 h2)) (fun v55 g55 => ?_)
        refine qg rfl rfl rfl (fun g w hS => (yLdB (g55.1 g) Tryz.isAgg22 (hS.at _) rfl)) (fun v56 g56 => ?_)
        refine qg rfl rfl rfl (fun g w hS => (yLen (g56.1 g) Tryz.underlying22)) (fun v57 g57 => ?_)
        refine qg rfl rfl rfl (fun g w hS => (ySub (g57.1 g) rfl ⟨by omega, by omega⟩)) (fun v58 g58 => ?_)
        refine qgc rfl rfl rfl Tryz.call66 (fun g => (.cons (g54.1 g) (.cons rfl (.cons (g58.1 g) .nil)))) (fun g w hS => c_rin) (fun v59 g59 => ?_)
        refine qg rfl rfl rfl (fun g w hS => (yNot (g59.1 g))) (fun v60 g60 => ?_)
        refine qv (fun w hS => (yOr rfl rfl (fun hB => (g60.1 hB)))) ?_
        refine qv (fun w hS => (yAsg rfl)) ?_
        clear hS; refine qnil (fun w hS => ?_)
        show Code.wp _ _ _ _ _
        refine seq ?_
        refine region ?_
        refine sv (yAsg rfl) ?_
        refine nil ?_
        show Code.wp _ _ _ _ _
        refine block ?_
        refine loop (fun f w zz => ∃ (j : Nat), f 2 = .pointer (some ⟨b2, 0, none⟩) ∧ f 5 = .pointer (some ⟨b5, 0, none⟩) ∧ f 7 = .bool (nonB t x (k + 1)) ∧ f 8 = .bool (dupB x k || (x.chans.take j).any fun y => decide (y = s)) ∧ f 9 = .int .i64 (k : Int) ∧ f 10 = .int .i64 (j : Int) ∧ StX [] w0 w [blk b5 [.string x.name, .int .i64 x.polder, .int .i64 x.travel, .int .i64 x.lead, .slice ad x.chans.length cd] 36, blk b2 [.int .i64 t.polders, .slice a1 t.chans.length cap1, .slice a2 t.towns.length cap2, .slice a3 t.floods.length cap3] 26] ∧ (j ≤ k) ∧ zz = k - j) _ ⟨_, rfl, 0, h2, h5, (rfl.trans (congrArg Value.bool (nonB_succ hxs).symm)), (h8.trans (congrArg Value.bool (by simp))), h9, rfl, hS, (Nat.zero_le _), rfl⟩ ?_
        clear hS
        rintro f w _ ⟨j, h2, h5, h7, h8, h9, h10, hS, hj, rfl⟩
        refine seq ?_
        refine seq ?_
        refine region ?_
        refine sv (yMove h10) ?_
        refine sv (yMove h9) ?_
        refine sv (yLss rfl rfl) ?_
        refine nil ?_
        show Code.wp _ _ _ _ _
        refine cond rfl (fun c64 => ?_) (fun c64 => ?_)
        ·
          simp only [Bool.and_eq_true, Bool.or_eq_true, Bool.and_eq_false_iff, Bool.or_eq_false_iff, decide_eq_true_eq, decide_eq_false_iff_not, Bool.not_eq_true, Bool.not_eq_false, Bool.not_not, Bool.not_eq_eq_eq_not, Bool.not_true, Bool.not_false, Bool.false_eq_true, Bool.true_eq_false, ne_eq, Decidable.not_not, not_false_eq_true, not_true_eq_false] at c64
          obtain ⟨z, hxz, hdz⟩ := drop_of (l := x.chans) (k := j) (by omega)
          obtain ⟨bz, oz, csz, haz, hlenz, hcsz, hRz⟩ := held (j) (by omega)
          obtain rfl : z = x.chans[j] := (List.getElem?_eq_some_iff.1 hxz).2.symm
          generalize x.chans[j] = z at hxz hdz hRz
          obtain ⟨rfl, hzi⟩ := hRz
          refine skip ?_
          show Code.wp _ _ _ _ _
          refine seq ?_
          refine block ?_
          refine region_draw mixed (by kernel_rfl) hS ?_
          refine qv (fun w hS => (yMove h8)) ?_
          refine qv (fun w hS => (yMove rfl)) ?_
          refine qg rfl rfl rfl (fun g w hS => (fa36_4 h5)) (fun v69 g69 => ?_)
          refine qg rfl rfl rfl (fun g w hS => (yLdB (g69.1 g) Tryz.isAgg34 (hS.at _) rfl)) (fun v70 g70 => ?_)
          refine qg rfl rfl rfl (fun g w hS => (yMove h10)) (fun v71 g71 => ?_)
          refine qg rfl rfl rfl (fun g w hS => (yIxa (g70.1 g) haz (g71.1 g) Tryz.runUnderlying34 Tryz.sizeOf3 (by omega) (by omega))) (fun v72 g72 => ?_)
          refine qg rfl rfl rfl (fun g w hS => (yLd (g72.1 g) Tryz.isAgg3 ((hcsz.ext hS.ext).one))) (fun v73 g73 => ?_)
          refine qg rfl rfl rfl (fun g w hS => (fa36_4 h5)) (fun v74 g74 => ?_)
          refine qg rfl rfl rfl (fun g w hS => (yLdB (g74.1 g) Tryz.isAgg34 (hS.at _) rfl)) (fun v75 g75 => ?_)
          refine qg rfl rfl rfl (fun g w hS => (yMove h9)) (fun v76 g76 => ?_)
          refine qg rfl rfl rfl (fun g w hS => (yIxa (g75.1 g) has (g76.1 g) Tryz.runUnderlying34 Tryz.sizeOf3 (by omega) (by omega))) (fun v77 g77 => ?_)
          refine qg rfl rfl rfl (fun g w hS => (yLd (g77.1 g) Tryz.isAgg3 ((hcss.ext hS.ext).one))) (fun v78 g78 => ?_)
          refine qg rfl rfl rfl (fun g w hS => (yEql (g73.1 g) (g78.1 g))) (fun v79 g79 => ?_)
          refine qv (fun w hS => (yOr rfl rfl (fun hB => (g79.1 hB)))) ?_
          refine qv (fun w hS => (yAsg rfl)) ?_
          clear hS; refine qnil (fun w hS => ?_)
          show Code.wp _ _ _ _ _
          refine region ?_
          refine sv (yMove h10) ?_
          refine sv (yAdd rfl rfl ⟨by omega, by omega⟩) ?_
          refine sv (yAsg rfl) ?_
          refine nil ?_
          exact ⟨_, _, rfl, ⟨j + 1, h2, h5, h7, (rfl.trans (congrArg Value.bool (by rw [hasB_take hxz, Bool.or_assoc]))), h9, rfl, hS, (by omega), rfl⟩, by omega⟩
        ·
          simp only [Bool.and_eq_true, Bool.or_eq_true, Bool.and_eq_false_iff, Bool.or_eq_false_iff, decide_eq_true_eq, decide_eq_false_iff_not, Bool.not_eq_true, Bool.not_eq_false, Bool.not_not, Bool.not_eq_eq_eq_not, Bool.not_true, Bool.not_false, Bool.false_eq_true, Bool.true_eq_false, ne_eq, Decidable.not_not, not_false_eq_true, not_true_eq_false] at c64
          obtain rfl : k = j := by omega
          refine exit ?_
          show Code.wp _ _ _ _ _
          refine region ?_
          refine sv (yMove h9) ?_
          refine sv (yAdd rfl rfl ⟨by omega, by omega⟩) ?_
          refine sv (yAsg rfl) ?_
          refine nil ?_
          exact ⟨_, _, rfl, ⟨k + 1, h2, h5, h7, (h8.trans (congrArg Value.bool (by rw [dupB_succ hxs]))), rfl, hS, (by omega), rfl⟩, by omega⟩
      ·
        simp only [Bool.and_eq_true, Bool.or_eq_true, Bool.and_eq_false_iff, Bool.or_eq_false_iff, decide_eq_true_eq, decide_eq_false_iff_not, Bool.not_eq_true, Bool.not_eq_false, Bool.not_not, Bool.not_eq_eq_eq_not, Bool.not_true, Bool.not_false, Bool.false_eq_true, Bool.true_eq_false, ne_eq, Decidable.not_not, not_false_eq_true, not_true_eq_false] at c45
        obtain rfl : k = x.chans.length := by omega
        refine exit ?_
        show Code.wp _ _ _ _ _
        refine seq ?_
        refine seq ?_
        refine region ?_
        refine sv (yMove h7) ?_
        refine nil ?_
        show Code.wp _ _ _ _ _
        refine cond rfl (fun c81 => ?_) (fun c81 => ?_)
        ·
          refine seq ?_
          refine region ?_
          refine sv (yAsg rfl) ?_
          refine nil ?_
          show Code.wp _ _ _ _ _
          refine wp_ret (thenR ?_)
          exact retV (res1 rfl (eqI (hne.trans (townE_4 c81)))) hS.ext
        ·
          refine skip ?_
          show Code.wp _ _ _ _ _
          refine seq ?_
          refine seq ?_
          refine region ?_
          refine sv (yMove h8) ?_
          refine nil ?_
          show Code.wp _ _ _ _ _
          refine cond rfl (fun c82 => ?_) (fun c82 => ?_)
          ·
            refine seq ?_
            refine region ?_
            refine sv (yAsg rfl) ?_
            refine nil ?_
            show Code.wp _ _ _ _ _
            refine wp_ret (thenR ?_)
            exact retV (res1 rfl (eqI (hne.trans (townE_5 c81 c82)))) hS.ext
          ·
            refine skip ?_
            show Code.wp _ _ _ _ _
            refine seq ?_
            refine seq ?_
            refine region ?_
            refine sv (fa36_2 h5) ?_
            refine sv (yLdB rfl Tryz.isAgg3 (hS.at _) rfl) ?_
            refine scall Tryz.call66 (.cons rfl (.cons rfl (.cons rfl .nil))) c_rin ?_
            rintro _ w ⟨rfl, hE⟩; replace hS := hS.step hE; clear hE
            refine sv (yNot rfl) ?_
            refine sv (yMove rfl) ?_
            refine sg rfl rfl rfl (fun g => (fa36_3 h5)) (fun v88 g88 => ?_)
            refine sg rfl rfl rfl (fun g => (yLdB (g88.1 g) Tryz.isAgg3 (hS.at _) rfl)) (fun v89 g89 => ?_)
            refine sgc hS rfl rfl rfl Tryz.call66 (fun g => (.cons (g89.1 g) (.cons rfl (.cons rfl .nil)))) (fun g => c_rin) ?_; clear hS; intro v90 w hS g90
            refine sg rfl rfl rfl (fun g => (yNot (g90.1 g))) (fun v91 g91 => ?_)
            refine sv (yOr rfl rfl (fun hB => (g91.1 hB))) ?_
            refine nil ?_
            show Code.wp _ _ _ _ _
            refine cond rfl (fun c92 => ?_) (fun c92 => ?_)
            ·
              refine seq ?_
              refine region ?_
              refine sv (yAsg rfl) ?_
              refine nil ?_
              show Code.wp _ _ _ _ _
              refine wp_ret (thenR ?_)
              exact retV (res1 rfl (eqI (hne.trans ((townE_7 c81 c82).trans (if_pos c92))))) hS.ext
            ·
              refine skip ?_
              show Code.wp _ _ _ _ _
              refine seq ?_
              refine region ?_
              refine sv (yAsg rfl) ?_
              refine nil ?_
              show Code.wp _ _ _ _ _
              refine wp_ret ?_
              exact retV (res1 rfl (eqI (hne.trans ((townE_7 c81 c82).trans (if_neg (by rw [show ((!inB x.travel 0 500) || (!inB x.lead 0 500)) = false from c92]; decide)))))) hS.ext
end Go.Proofs.YtmoilbakmlekbaaGreatDoor
/- part Aw29 -/
namespace Go.Proofs.YtmoilbakmlekbaaGreatDoor
open Go Bx
set_option maxHeartbeats 2000000 in
/-- barrage/barrageref11.Check -/
theorem c_rCheck {t : Task} {hv nv fv : Value} {w0 : World} (h : RTask w0 [.int .i64 t.polders, hv, nv, fv] t) : CV Tryz.prog 22 #[.agg [.int .i64 t.polders, hv, nv, fv].toArray] w0 (.tuple #[.int .i64 (checkA t).1, .int .i64 (checkA t).2.1, .int .i64 (checkA t).2.2]) := by
  obtain ⟨hv', nv', fv', he0, hpol, hsh, hsn, hsf⟩ := id h
  obtain ⟨rfl, rfl, rfl⟩ : hv' = hv ∧ nv' = nv ∧ fv' = fv := by simpa [eq_comm] using he0
  obtain ⟨a1, cap1, rfl, hcap1, hmx1, hel1⟩ := id hsh
  obtain ⟨a2, cap2, rfl, hcap2, hmx2, hel2⟩ := id hsn
  obtain ⟨a3, cap3, rfl, hcap3, hmx3, hel3⟩ := id hsf
  refine enter Tryz.func22 rfl Tryz.ntmps22 rfl ?_
  have hS := St.start w0
  refine seq ?_
  refine region ?_
  refine sbox hS rfl rfl ?_; clear hS; intro b1 w hS
  refine sv (yAsg rfl) ?_
  refine sv (yAsg rfl) ?_
  refine sv (yAsg rfl) ?_
  refine nil ?_
  show Code.wp _ _ _ _ _
  refine seq ?_
  refine seq ?_
  refine region ?_
  refine sv (fa26_0 rfl) ?_
  refine sv (yLdB rfl Tryz.isAgg3 (hS.at _) rfl) ?_
  refine scall Tryz.call66 (.cons rfl (.cons rfl (.cons rfl .nil))) c_rin ?_
  rintro _ w ⟨rfl, hE⟩; replace hS := hS.step hE; clear hE
  refine sv (yNot rfl) ?_
  refine nil ?_
  show Code.wp _ _ _ _ _
  refine cond rfl (fun c14 => ?_) (fun c14 => ?_)
  ·
    have h14 : outB t.polders 0 6 = true := by rw [← inB_not]; exact c14
    refine seq ?_
    refine region ?_
    refine sv (yAsg rfl) ?_
    refine sv (yAsg rfl) ?_
    refine sv (yAsg rfl) ?_
    refine nil ?_
    show Code.wp _ _ _ _ _
    have hfin : checkA t = (1, 0, 7) := by unfold checkA; rw [if_pos h14]
    refine wp_ret (thenR ?_)
    exact retV (res3 rfl (fstI hfin) (thd1I hfin) (thd2I hfin)) hS.ext
  ·
    have h14 : outB t.polders 0 6 = false := by rw [← inB_not]; exact c14
    have hp := outB_false.1 h14
    refine skip ?_
    show Code.wp _ _ _ _ _
    refine seq ?_
    refine seq ?_
    refine region ?_
    refine sv (fa26_1 rfl) ?_
    refine sv (yLdB rfl Tryz.isAgg22 (hS.at _) rfl) ?_
    refine sv (yLen rfl Tryz.underlying22) ?_
    refine sv (yGtr rfl rfl) ?_
    refine nil ?_
    show Code.wp _ _ _ _ _
    refine cond rfl (fun c18 => ?_) (fun c18 => ?_)
    ·
      simp only [Bool.and_eq_true, Bool.or_eq_true, Bool.and_eq_false_iff, Bool.or_eq_false_iff, decide_eq_true_eq, decide_eq_false_iff_not, Bool.not_eq_true, Bool.not_eq_false, Bool.not_not, Bool.not_eq_eq_eq_not, Bool.not_true, Bool.not_false, Bool.false_eq_true, Bool.true_eq_false, ne_eq, Decidable.not_not, not_false_eq_true, not_true_eq_false] at c18
      refine seq ?_
      refine region ?_
      refine sv (yAsg rfl) ?_
      refine sv (yAsg rfl) ?_
      refine sv (yAsg rfl) ?_
      refine nil ?_
      show Code.wp _ _ _ _ _
      have hfin : checkA t = (2, 0, 3) := by unfold checkA; rw [if_neg (by rw [h14]; decide), if_pos c18]
      refine wp_ret (thenR ?_)
      exact retV (res3 rfl (fstI hfin) (thd1I hfin) (thd2I hfin)) hS.ext
    ·
      simp only [Bool.and_eq_true, Bool.or_eq_true, Bool.and_eq_false_iff, Bool.or_eq_false_iff, decide_eq_true_eq, decide_eq_false_iff_not, Bool.not_eq_true, Bool.not_eq_false, Bool.not_not, Bool.not_eq_eq_eq_not, Bool.not_true, Bool.not_false, Bool.false_eq_true, Bool.true_eq_false, ne_eq, Decidable.not_not, not_false_eq_true, not_true_eq_false] at c18
      refine skip ?_
      show Code.wp _ _ _ _ _
      refine seq ?_
      refine seq ?_
      refine region ?_
      refine sv (yAsg rfl) ?_
      refine nil ?_
      show Code.wp _ _ _ _ _
      refine block ?_
      refine loop (fun f w zz => ∃ (k : Nat), f 1 = .pointer (some ⟨b1, 0, none⟩) ∧ f 5 = .int .i64 (k : Int) ∧ StX [] w0 w [blk b1 [.int .i64 t.polders, .slice a1 t.chans.length cap1, .slice a2 t.towns.length cap2, .slice a3 t.floods.length cap3] 26] ∧ (k ≤ t.chans.length) ∧ (namedR (·.name) chanE t.chans [] 0 = namedR (·.name) chanE (t.chans.drop k) ((t.chans.take k).map (·.name)) k) ∧ zz = t.chans.length - k) _ ⟨_, rfl, 0, rfl, rfl, hS, (Nat.zero_le _), (rfl), rfl⟩ ?_
      clear hS
      rintro f w _ ⟨k, h1, h5, hS, hk, hI, rfl⟩
      refine seq ?_
      refine seq ?_
      refine region ?_
      refine sv (yMove h5) ?_
      refine sv (fa26_1 h1) ?_
      refine sv (yLdB rfl Tryz.isAgg22 (hS.at _) rfl) ?_
      refine sv (yLen rfl Tryz.underlying22) ?_
      refine sv (yLss rfl rfl) ?_
      refine nil ?_
      show Code.wp _ _ _ _ _
      refine cond rfl (fun c23 => ?_) (fun c23 => ?_)
      ·
        simp only [Bool.and_eq_true, Bool.or_eq_true, Bool.and_eq_false_iff, Bool.or_eq_false_iff, decide_eq_true_eq, decide_eq_false_iff_not, Bool.not_eq_true, Bool.not_eq_false, Bool.not_not, Bool.not_eq_eq_eq_not, Bool.not_true, Bool.not_false, Bool.false_eq_true, Bool.true_eq_false, ne_eq, Decidable.not_not, not_false_eq_true, not_true_eq_false] at c23
        refine skip ?_
        show Code.wp _ _ _ _ _
        refine seq ?_
        refine block ?_
        refine seq ?_
        refine region ?_
        obtain ⟨x, hx, hd⟩ := drop_of (l := t.chans) (k := k) (by omega)
        refine sv (yLdBA h1 Tryz.isAgg26 Tryz.sizeOf26 (hS.at _) rfl rfl) ?_
        refine sv (yMove h5) ?_
        refine scall Tryz.call67 (.cons rfl (.cons rfl .nil)) (c_rchan (h.ext hS.ext) hx) ?_
        rintro _ w ⟨rfl, hE⟩; replace hS := hS.step hE; clear hE
        refine sv (yAsg rfl) ?_
        refine nil ?_
        show Code.wp _ _ _ _ _
        refine seq ?_
        refine region ?_
        refine sv (yMove rfl) ?_
        refine sv (yNeq rfl rfl) ?_
        refine nil ?_
        show Code.wp _ _ _ _ _
        refine cond rfl (fun c30 => ?_) (fun c30 => ?_)
        ·
          simp only [Bool.and_eq_true, Bool.or_eq_true, Bool.and_eq_false_iff, Bool.or_eq_false_iff, decide_eq_true_eq, decide_eq_false_iff_not, Bool.not_eq_true, Bool.not_eq_false, Bool.not_not, Bool.not_eq_eq_eq_not, Bool.not_true, Bool.not_false, Bool.false_eq_true, Bool.true_eq_false, ne_eq, Decidable.not_not, not_false_eq_true, not_true_eq_false] at c30
          refine seq ?_
          refine region ?_
          refine sv (yMove h5) ?_
          refine sv (yMove rfl) ?_
          refine sv (yAsg rfl) ?_
          refine sv (yAsg rfl) ?_
          refine sv (yAsg rfl) ?_
          refine nil ?_
          show Code.wp _ _ _ _ _
          have hNE : namedR (·.name) chanE t.chans [] 0 = ((k : Int), errR (·.name) chanE t.chans k x) := hI.trans (namedR_hit hd c30)
          have hfin : checkA t = (2, (k : Int), errR (·.name) chanE t.chans k x) := by unfold checkA; rw [if_neg (by rw [h14]; decide), if_neg c18, if_pos (by rw [hNE]; exact c30), hNE]
          refine wp_ret (blockR (thenR (thenR (blockR (thenR ?_)))))
          exact retV (res3 rfl (fstI hfin) (thd1I hfin) (thd2I hfin)) hS.ext
        ·
          simp only [Bool.and_eq_true, Bool.or_eq_true, Bool.and_eq_false_iff, Bool.or_eq_false_iff, decide_eq_true_eq, decide_eq_false_iff_not, Bool.not_eq_true, Bool.not_eq_false, Bool.not_not, Bool.not_eq_eq_eq_not, Bool.not_true, Bool.not_false, Bool.false_eq_true, Bool.true_eq_false, ne_eq, Decidable.not_not, not_false_eq_true, not_true_eq_false] at c30
          refine skip ?_
          show Code.wp _ _ _ _ _
          refine region ?_
          refine sv (yMove h5) ?_
          refine sv (yAdd rfl rfl ⟨by omega, by omega⟩) ?_
          refine sv (yAsg rfl) ?_
          refine nil ?_
          exact ⟨_, _, rfl, ⟨k + 1, h1, rfl, hS, (by omega), (by rw [hI]; exact namedR_step hx hd c30), rfl⟩, by omega⟩
      ·
        simp only [Bool.and_eq_true, Bool.or_eq_true, Bool.and_eq_false_iff, Bool.or_eq_false_iff, decide_eq_true_eq, decide_eq_false_iff_not, Bool.not_eq_true, Bool.not_eq_false, Bool.not_not, Bool.not_eq_eq_eq_not, Bool.not_true, Bool.not_false, Bool.false_eq_true, Bool.true_eq_false, ne_eq, Decidable.not_not, not_false_eq_true, not_true_eq_false] at c23
        have hc0 : (namedR (·.name) chanE t.chans [] 0).2 = 0 := by rw [hI, namedR_end (by omega)]
        refine exit ?_
        show Code.wp _ _ _ _ _
        refine seq ?_
        refine seq ?_
        refine region ?_
        refine sv (fa26_2 h1) ?_
        refine sv (yLdB rfl Tryz.isAgg23 (hS.at _) rfl) ?_
        refine sv (yLen rfl Tryz.underlying23) ?_
        refine sv (yGtr rfl rfl) ?_
        refine nil ?_
        show Code.wp _ _ _ _ _
        refine cond rfl (fun c36 => ?_) (fun c36 => ?_)
        ·
          simp only [Bool.and_eq_true, Bool.or_eq_true, Bool.and_eq_false_iff, Bool.or_eq_false_iff, decide_eq_true_eq, decide_eq_false_iff_not, Bool.not_eq_true, Bool.not_eq_false, Bool.not_not, Bool.not_eq_eq_eq_not, Bool.not_true, Bool.not_false, Bool.false_eq_true, Bool.true_eq_false, ne_eq, Decidable.not_not, not_false_eq_true, not_true_eq_false] at c36
          refine seq ?_
          refine region ?_
          refine sv (yAsg rfl) ?_
          refine sv (yAsg rfl) ?_
          refine sv (yAsg rfl) ?_
          refine nil ?_
          show Code.wp _ _ _ _ _
          have hfin : checkA t = (3, 0, 3) := by unfold checkA; rw [if_neg (by rw [h14]; decide), if_neg c18, if_neg (fun h => h hc0), if_pos c36]
          refine wp_ret (thenR ?_)
          exact retV (res3 rfl (fstI hfin) (thd1I hfin) (thd2I hfin)) hS.ext
        ·
          simp only [Bool.and_eq_true, Bool.or_eq_true, Bool.and_eq_false_iff, Bool.or_eq_false_iff, decide_eq_true_eq, decide_eq_false_iff_not, Bool.not_eq_true, Bool.not_eq_false, Bool.not_not, Bool.not_eq_eq_eq_not, Bool.not_true, Bool.not_false, Bool.false_eq_true, Bool.true_eq_false, ne_eq, Decidable.not_not, not_false_eq_true, not_true_eq_false] at c36
          refine skip ?_
          show Code.wp _ _ _ _ _
          refine seq ?_
          refine seq ?_
          refine region ?_
          refine sv (yAsg rfl) ?_
          refine nil ?_
          show Code.wp _ _ _ _ _
          refine block ?_
          refine loop (fun f w zz => ∃ (k : Nat), f 1 = .pointer (some ⟨b1, 0, none⟩) ∧ f 7 = .int .i64 (k : Int) ∧ StX [] w0 w [blk b1 [.int .i64 t.polders, .slice a1 t.chans.length cap1, .slice a2 t.towns.length cap2, .slice a3 t.floods.length cap3] 26] ∧ (k ≤ t.towns.length) ∧ (namedR (·.name) (townE t.polders t.chans.length) t.towns [] 0 = namedR (·.name) (townE t.polders t.chans.length) (t.towns.drop k) ((t.towns.take k).map (·.name)) k) ∧ zz = t.towns.length - k) _ ⟨_, rfl, 0, h1, rfl, hS, (Nat.zero_le _), (rfl), rfl⟩ ?_
          clear hS
          rintro f w _ ⟨k, h1, h7, hS, hk, hI, rfl⟩
          refine seq ?_
          refine seq ?_
          refine region ?_
          refine sv (yMove h7) ?_
          refine sv (fa26_2 h1) ?_
          refine sv (yLdB rfl Tryz.isAgg23 (hS.at _) rfl) ?_
          refine sv (yLen rfl Tryz.underlying23) ?_
          refine sv (yLss rfl rfl) ?_
          refine nil ?_
          show Code.wp _ _ _ _ _
          refine cond rfl (fun c41 => ?_) (fun c41 => ?_)
          ·
            simp only [Bool.and_eq_true, Bool.or_eq_true, Bool.and_eq_false_iff, Bool.or_eq_false_iff, decide_eq_true_eq, decide_eq_false_iff_not, Bool.not_eq_true, Bool.not_eq_false, Bool.not_not, Bool.not_eq_eq_eq_not, Bool.not_true, Bool.not_false, Bool.false_eq_true, Bool.true_eq_false, ne_eq, Decidable.not_not, not_false_eq_true, not_true_eq_false] at c41
            refine skip ?_
            show Code.wp _ _ _ _ _
            refine seq ?_
            refine block ?_
            refine seq ?_
            refine region ?_
            obtain ⟨x, hx, hd⟩ := drop_of (l := t.towns) (k := k) (by omega)
            refine sv (yLdBA h1 Tryz.isAgg26 Tryz.sizeOf26 (hS.at _) rfl rfl) ?_
            refine sv (yMove h7) ?_
            refine scall Tryz.call68 (.cons rfl (.cons rfl .nil)) (c_rtown (h.ext hS.ext) hx hp) ?_
            rintro _ w ⟨rfl, hE⟩; replace hS := hS.step hE; clear hE
            refine sv (yAsg rfl) ?_
            refine nil ?_
            show Code.wp _ _ _ _ _
            refine seq ?_
            refine region ?_
            refine sv (yMove rfl) ?_
            refine sv (yNeq rfl rfl) ?_
            refine nil ?_
            show Code.wp _ _ _ _ _
            refine cond rfl (fun c48 => ?_) (fun c48 => ?_)
            ·
              simp only [Bool.and_eq_true, Bool.or_eq_true, Bool.and_eq_false_iff, Bool.or_eq_false_iff, decide_eq_true_eq, decide_eq_false_iff_not, Bool.not_eq_true, Bool.not_eq_false, Bool.not_not, Bool.not_eq_eq_eq_not, Bool.not_true, Bool.not_false, Bool.false_eq_true, Bool.true_eq_false, ne_eq, Decidable.not_not, not_false_eq_true, not_true_eq_false] at c48
              refine seq ?_
              refine region ?_
              refine sv (yMove h7) ?_
              refine sv (yMove rfl) ?_
              refine sv (yAsg rfl) ?_
              refine sv (yAsg rfl) ?_
              refine sv (yAsg rfl) ?_
              refine nil ?_
              show Code.wp _ _ _ _ _
              have hNE : namedR (·.name) (townE t.polders t.chans.length) t.towns [] 0 = ((k : Int), errR (·.name) (townE t.polders t.chans.length) t.towns k x) := hI.trans (namedR_hit hd c48)
              have hfin : checkA t = (3, (k : Int), errR (·.name) (townE t.polders t.chans.length) t.towns k x) := by unfold checkA; rw [if_neg (by rw [h14]; decide), if_neg c18, if_neg (fun h => h hc0), if_neg c36, if_pos (by rw [hNE]; exact c48), hNE]
              refine wp_ret (blockR (thenR (thenR (blockR (thenR ?_)))))
              exact retV (res3 rfl (fstI hfin) (thd1I hfin) (thd2I hfin)) hS.ext
            ·
              simp only [Bool.and_eq_true, Bool.or_eq_true, Bool.and_eq_false_iff, Bool.or_eq_false_iff, decide_eq_true_eq, decide_eq_false_iff_not, Bool.not_eq_true, Bool.not_eq_false, Bool.not_not, Bool.not_eq_eq_eq_not, Bool.not_true, Bool.not_false, Bool.false_eq_true, Bool.true_eq_false, ne_eq, Decidable.not_not, not_false_eq_true, not_true_eq_false] at c48
              refine skip ?_
              show Code.wp _ _ _ _ _
              refine region ?_
              refine sv (yMove h7) ?_
              refine sv (yAdd rfl rfl ⟨by omega, by omega⟩) ?_
              refine sv (yAsg rfl) ?_
              refine nil ?_
              exact ⟨_, _, rfl, ⟨k + 1, h1, rfl, hS, (by omega), (by rw [hI]; exact namedR_step hx hd c48), rfl⟩, by omega⟩
          ·
            simp only [Bool.and_eq_true, Bool.or_eq_true, Bool.and_eq_false_iff, Bool.or_eq_false_iff, decide_eq_true_eq, decide_eq_false_iff_not, Bool.not_eq_true, Bool.not_eq_false, Bool.not_not, Bool.not_eq_eq_eq_not, Bool.not_true, Bool.not_false, Bool.false_eq_true, Bool.true_eq_false, ne_eq, Decidable.not_not, not_false_eq_true, not_true_eq_false] at c41
            have ht0 : (namedR (·.name) (townE t.polders t.chans.length) t.towns [] 0).2 = 0 := by rw [hI, namedR_end (by omega)]
            refine exit ?_
            show Code.wp _ _ _ _ _
            refine seq ?_
            refine seq ?_
            refine region ?_
            refine sv (fa26_3 h1) ?_
            refine sv (yLdB rfl Tryz.isAgg24 (hS.at _) rfl) ?_
            refine sv (yLen rfl Tryz.underlying24) ?_
            refine scall Tryz.call66 (.cons rfl (.cons rfl (.cons rfl .nil))) c_rin ?_
            rintro _ w ⟨rfl, hE⟩; replace hS := hS.step hE; clear hE
            refine sv (yNot rfl) ?_
            refine nil ?_
            show Code.wp _ _ _ _ _
            refine cond rfl (fun c55 => ?_) (fun c55 => ?_)
            ·
              have h55 : outB t.floods.length 1 8 = true := by rw [← inB_not]; exact c55
              refine seq ?_
              refine region ?_
              refine sv (yAsg rfl) ?_
              refine sv (yAsg rfl) ?_
              refine sv (yAsg rfl) ?_
              refine nil ?_
              show Code.wp _ _ _ _ _
              have hfin : checkA t = (4, 0, 3) := by unfold checkA; rw [if_neg (by rw [h14]; decide), if_neg c18, if_neg (fun h => h hc0), if_neg c36, if_neg (fun h => h ht0), if_pos h55]
              refine wp_ret (thenR ?_)
              exact retV (res3 rfl (fstI hfin) (thd1I hfin) (thd2I hfin)) hS.ext
            ·
              have h55 : outB t.floods.length 1 8 = false := by rw [← inB_not]; exact c55
              refine skip ?_
              show Code.wp _ _ _ _ _
              refine seq ?_
              refine seq ?_
              refine region ?_
              refine sv (yAsg rfl) ?_
              refine nil ?_
              show Code.wp _ _ _ _ _
              refine block ?_
              refine loop (fun f w zz => ∃ (k : Nat), f 1 = .pointer (some ⟨b1, 0, none⟩) ∧ f 9 = .int .i64 (k : Int) ∧ StX [] w0 w [blk b1 [.int .i64 t.polders, .slice a1 t.chans.length cap1, .slice a2 t.towns.length cap2, .slice a3 t.floods.length cap3] 26] ∧ (k ≤ t.floods.length) ∧ (firstR (floodE t.polders) t.floods 0 = firstR (floodE t.polders) (t.floods.drop k) k) ∧ zz = t.floods.length - k) _ ⟨_, rfl, 0, h1, rfl, hS, (Nat.zero_le _), (rfl), rfl⟩ ?_
              clear hS
              rintro f w _ ⟨k, h1, h9, hS, hk, hI, rfl⟩
              refine seq ?_
              refine seq ?_
              refine region ?_
              refine sv (yMove h9) ?_
              refine sv (fa26_3 h1) ?_
              refine sv (yLdB rfl Tryz.isAgg24 (hS.at _) rfl) ?_
              refine sv (yLen rfl Tryz.underlying24) ?_
              refine sv (yLss rfl rfl) ?_
              refine nil ?_
              show Code.wp _ _ _ _ _
              refine cond rfl (fun c60 => ?_) (fun c60 => ?_)
              ·
                simp only [Bool.and_eq_true, Bool.or_eq_true, Bool.and_eq_false_iff, Bool.or_eq_false_iff, decide_eq_true_eq, decide_eq_false_iff_not, Bool.not_eq_true, Bool.not_eq_false, Bool.not_not, Bool.not_eq_eq_eq_not, Bool.not_true, Bool.not_false, Bool.false_eq_true, Bool.true_eq_false, ne_eq, Decidable.not_not, not_false_eq_true, not_true_eq_false] at c60
                obtain ⟨l, hxl, hdl⟩ := drop_of (l := t.floods) (k := k) (by omega)
                obtain ⟨bl, ol, csl, hal, hlenl, hcsl, hRl⟩ := hel3 (k) (by omega)
                obtain rfl : l = t.floods[k] := (List.getElem?_eq_some_iff.1 hxl).2.symm
                generalize t.floods[k] = l at hxl hdl hRl
                have hR1 := hRl
                obtain ⟨lv, rfl, hsl⟩ := id hR1
                obtain ⟨al, cl2, rfl, hlcap, hlmx, hlel⟩ := id hsl
                refine skip ?_
                show Code.wp _ _ _ _ _
                refine seq ?_
                refine block ?_
                refine seq ?_
                refine seq ?_
                refine region_draw mixed (by kernel_rfl) hS ?_
                refine qv (fun w hS => (fa26_3 h1)) ?_
                refine qv (fun w hS => (yLdB rfl Tryz.isAgg24 (hS.at _) rfl)) ?_
                refine qv (fun w hS => (yMove h9)) ?_
                refine qv (fun w hS => (yIxa rfl hal rfl Tryz.runUnderlying24 Tryz.sizeOf34 (by omega) (by omega))) ?_
                refine qv (fun w hS => (yLd rfl Tryz.isAgg34 ((hcsl.ext hS.ext).one))) ?_
                refine qv (fun w hS => (yLen rfl Tryz.underlying34)) ?_
                refine qv (fun w hS => (fa26_0 h1)) ?_
                refine qv (fun w hS => (yLdB rfl Tryz.isAgg3 (hS.at _) rfl)) ?_
                refine qv (fun w hS => (yNeq rfl rfl)) ?_
                clear hS; refine qnil (fun w hS => ?_)
                show Code.wp _ _ _ _ _
                refine cond rfl (fun c71 => ?_) (fun c71 => ?_)
                ·
                  simp only [Bool.and_eq_true, Bool.or_eq_true, Bool.and_eq_false_iff, Bool.or_eq_false_iff, decide_eq_true_eq, decide_eq_false_iff_not, Bool.not_eq_true, Bool.not_eq_false, Bool.not_not, Bool.not_eq_eq_eq_not, Bool.not_true, Bool.not_false, Bool.false_eq_true, Bool.true_eq_false, ne_eq, Decidable.not_not, not_false_eq_true, not_true_eq_false] at c71
                  refine seq ?_
                  refine region ?_
                  refine sv (yMove h9) ?_
                  refine sv (yAsg rfl) ?_
                  refine sv (yAsg rfl) ?_
                  refine sv (yAsg rfl) ?_
                  refine nil ?_
                  show Code.wp _ _ _ _ _
                  have hfe : floodE t.polders l = 2 := by unfold floodE; rw [if_pos c71]
                  have hFR : firstR (floodE t.polders) t.floods 0 = ((k : Int), 2) := by rw [hI, hdl, firstR, if_pos (by rw [hfe]; decide), hfe]
                  have hfin : checkA t = (4, (k : Int), 2) := by unfold checkA; rw [if_neg (by rw [h14]; decide), if_neg c18, if_neg (fun h => h hc0), if_neg c36, if_neg (fun h => h ht0), if_neg (by rw [h55]; decide), if_pos (by rw [hFR]; show (2 : Int) ≠ 0; decide), hFR]
                  refine wp_ret (thenR (blockR (thenR (thenR (blockR (thenR ?_))))))
                  exact retV (res3 rfl (fstI hfin) (thd1I hfin) (thd2I hfin)) hS.ext
                ·
                  simp only [Bool.and_eq_true, Bool.or_eq_true, Bool.and_eq_false_iff, Bool.or_eq_false_iff, decide_eq_true_eq, decide_eq_false_iff_not, Bool.not_eq_true, Bool.not_eq_false, Bool.not_not, Bool.not_eq_eq_eq_not, Bool.not_true, Bool.not_false, Bool.false_eq_true, Bool.true_eq_false, ne_eq, Decidable.not_not, not_false_eq_true, not_true_eq_false] at c71
                  refine skip ?_
                  show Code.wp _ _ _ _ _
                  refine seq ?_
                  refine region ?_
                  refine sv (yAsg rfl) ?_
                  refine nil ?_
                  show Code.wp _ _ _ _ _
                  refine block ?_
                  refine loop (fun f w zz => ∃ (j : Nat), f 1 = .pointer (some ⟨b1, 0, none⟩) ∧ f 9 = .int .i64 (k : Int) ∧ f 10 = .int .i64 (j : Int) ∧ StX [] w0 w [blk b1 [.int .i64 t.polders, .slice a1 t.chans.length cap1, .slice a2 t.towns.length cap2, .slice a3 t.floods.length cap3] 26] ∧ (j ≤ l.length) ∧ (∀ q, q < j → ∀ z, l[q]? = some z → outB z (-1) 200000 = false) ∧ zz = l.length - j) _ ⟨_, rfl, 0, h1, h9, rfl, hS, (Nat.zero_le _), (fun q hq => absurd hq (Nat.not_lt_zero q)), rfl⟩ ?_
                  clear hS
                  rintro f w _ ⟨j, h1, h9, h10, hS, hj, hM, rfl⟩
                  refine seq ?_
                  refine seq ?_
                  refine region ?_
                  refine sv (yMove h10) ?_
                  refine sv (fa26_3 h1) ?_
                  refine sv (yLdB rfl Tryz.isAgg24 (hS.at _) rfl) ?_
                  refine sv (yMove h9) ?_
                  refine sv (yIxa rfl hal rfl Tryz.runUnderlying24 Tryz.sizeOf34 (by omega) (by omega)) ?_
                  refine sv (yLd rfl Tryz.isAgg34 ((hcsl.ext hS.ext).one)) ?_
                  refine sv (yLen rfl Tryz.underlying34) ?_
                  refine sv (yLss rfl rfl) ?_
                  refine nil ?_
                  show Code.wp _ _ _ _ _
                  refine cond rfl (fun c80 => ?_) (fun c80 => ?_)
                  ·
                    simp only [Bool.and_eq_true, Bool.or_eq_true, Bool.and_eq_false_iff, Bool.or_eq_false_iff, decide_eq_true_eq, decide_eq_false_iff_not, Bool.not_eq_true, Bool.not_eq_false, Bool.not_not, Bool.not_eq_eq_eq_not, Bool.not_true, Bool.not_false, Bool.false_eq_true, Bool.true_eq_false, ne_eq, Decidable.not_not, not_false_eq_true, not_true_eq_false] at c80
                    obtain ⟨z, hxz, hdz⟩ := drop_of (l := l) (k := j) (by omega)
                    obtain ⟨bz, oz, csz, haz, hlenz, hcsz, hRz⟩ := hlel (j) (by omega)
                    obtain rfl : z = l[j] := (List.getElem?_eq_some_iff.1 hxz).2.symm
                    generalize l[j] = z at hxz hdz hRz
                    obtain ⟨rfl, hzi⟩ := hRz
                    refine skip ?_
                    show Code.wp _ _ _ _ _
                    refine seq ?_
                    refine block ?_
                    refine seq ?_
                    refine region ?_
                    refine sv (fa26_3 h1) ?_
                    refine sv (yLdB rfl Tryz.isAgg24 (hS.at _) rfl) ?_
                    refine sv (yMove h9) ?_
                    refine sv (yIxa rfl hal rfl Tryz.runUnderlying24 Tryz.sizeOf34 (by omega) (by omega)) ?_
                    refine sv (yLd rfl Tryz.isAgg34 ((hcsl.ext hS.ext).one)) ?_
                    refine sv (yMove h10) ?_
                    refine sv (yIxa rfl haz rfl Tryz.runUnderlying34 Tryz.sizeOf3 (by omega) (by omega)) ?_
                    refine sv (yLd rfl Tryz.isAgg3 ((hcsz.ext hS.ext).one)) ?_
                    refine scall Tryz.call66 (.cons rfl (.cons rfl (.cons rfl .nil))) c_rin ?_
                    rintro _ w ⟨rfl, hE⟩; replace hS := hS.step hE; clear hE
                    refine sv (yNot rfl) ?_
                    refine nil ?_
                    show Code.wp _ _ _ _ _
                    refine cond rfl (fun c92 => ?_) (fun c92 => ?_)
                    ·
                      have h92 : outB z (-1) 200000 = true := by rw [← inB_not]; exact c92
                      refine seq ?_
                      refine region ?_
                      refine sv (yMove h9) ?_
                      refine sv (yAsg rfl) ?_
                      refine sv (yAsg rfl) ?_
                      refine sv (yAsg rfl) ?_
                      refine nil ?_
                      show Code.wp _ _ _ _ _
                      have hfe : floodE t.polders l = 7 := by unfold floodE; rw [if_neg (fun h => h c71), if_pos (List.any_eq_true.2 ⟨z, List.mem_of_getElem? hxz, h92⟩)]
                      have hFR : firstR (floodE t.polders) t.floods 0 = ((k : Int), 7) := by rw [hI, hdl, firstR, if_pos (by rw [hfe]; decide), hfe]
                      have hfin : checkA t = (4, (k : Int), 7) := by unfold checkA; rw [if_neg (by rw [h14]; decide), if_neg c18, if_neg (fun h => h hc0), if_neg c36, if_neg (fun h => h ht0), if_neg (by rw [h55]; decide), if_pos (by rw [hFR]; show (7 : Int) ≠ 0; decide), hFR]
                      refine wp_ret (blockR (thenR (thenR (blockR (blockR (thenR (thenR (blockR (thenR ?_)))))))))
                      exact retV (res3 rfl (fstI hfin) (thd1I hfin) (thd2I hfin)) hS.ext
                    ·
                      have h92 : outB z (-1) 200000 = false := by rw [← inB_not]; exact c92
                      refine skip ?_
                      show Code.wp _ _ _ _ _
                      refine region ?_
                      refine sv (yMove h10) ?_
                      refine sv (yAdd rfl rfl ⟨by omega, by omega⟩) ?_
                      refine sv (yAsg rfl) ?_
                      refine nil ?_
                      exact ⟨_, _, rfl, ⟨j + 1, h1, h9, rfl, hS, (by omega), (snoc hM (fun v hv => by cases Option.some.inj (hxz.symm.trans hv); exact h92)), rfl⟩, by omega⟩
                  ·
                    simp only [Bool.and_eq_true, Bool.or_eq_true, Bool.and_eq_false_iff, Bool.or_eq_false_iff, decide_eq_true_eq, decide_eq_false_iff_not, Bool.not_eq_true, Bool.not_eq_false, Bool.not_not, Bool.not_eq_eq_eq_not, Bool.not_true, Bool.not_false, Bool.false_eq_true, Bool.true_eq_false, ne_eq, Decidable.not_not, not_false_eq_true, not_true_eq_false] at c80
                    refine exit ?_
                    show Code.wp _ _ _ _ _
                    refine region ?_
                    refine sv (yMove h9) ?_
                    refine sv (yAdd rfl rfl ⟨by omega, by omega⟩) ?_
                    refine sv (yAsg rfl) ?_
                    refine nil ?_
                    obtain rfl : j = l.length := by omega
                    have hfe : floodE t.polders l = 0 := by unfold floodE; rw [if_neg (fun h => h c71), if_neg (fun hh => by obtain ⟨z, hz, hb⟩ := List.any_eq_true.1 hh; obtain ⟨q, hq, rfl⟩ := List.mem_iff_getElem.1 hz; rw [hM q hq _ (List.getElem?_eq_getElem hq)] at hb; cases hb)]
                    exact ⟨_, _, rfl, ⟨k + 1, h1, rfl, hS, (by omega), (by rw [hI, hdl, firstR, if_neg (fun h => h hfe)]; rfl), rfl⟩, by omega⟩
              ·
                simp only [Bool.and_eq_true, Bool.or_eq_true, Bool.and_eq_false_iff, Bool.or_eq_false_iff, decide_eq_true_eq, decide_eq_false_iff_not, Bool.not_eq_true, Bool.not_eq_false, Bool.not_not, Bool.not_eq_eq_eq_not, Bool.not_true, Bool.not_false, Bool.false_eq_true, Bool.true_eq_false, ne_eq, Decidable.not_not, not_false_eq_true, not_true_eq_false] at c60
                obtain rfl : k = t.floods.length := by omega
                have hFR : firstR (floodE t.polders) t.floods 0 = (0, 0) := by rw [hI, List.drop_length]; rfl
                refine exit ?_
                show Code.wp _ _ _ _ _
                refine seq ?_
                refine region ?_
                refine sv (yAsg rfl) ?_
                refine sv (yAsg rfl) ?_
                refine sv (yAsg rfl) ?_
                refine nil ?_
                show Code.wp _ _ _ _ _
                have hfin : checkA t = (0, 0, 0) := by unfold checkA; rw [if_neg (by rw [h14]; decide), if_neg c18, if_neg (fun h => h hc0), if_neg c36, if_neg (fun h => h ht0), if_neg (by rw [h55]; decide), if_neg (fun h => h (by rw [hFR]))]
                refine wp_ret ?_
                exact retV (res3 rfl (fstI hfin) (thd1I hfin) (thd2I hfin)) hS.ext
end Go.Proofs.YtmoilbakmlekbaaGreatDoor
/- part A25 -/
namespace Bx
open Go Go.RowKit
/-! ### arrivals -/
theorem arrS_skip {x : Town} {s : Span × Int} {l : List Int} (h : fld x l < 0) : arrStep x s l = s := if_pos h
theorem arrS_zero {x : Town} {s : Span × Int} {l : List Int} (h : ¬ fld x l < 0) (h0 : s.2 = 0) : arrStep x s l = (⟨min (fld x l + x.travel) (fld x l + x.travel), max (fld x l + x.travel) (fld x l + x.travel)⟩, s.2 + 1) := by
  unfold fld at *
  unfold arrStep
  rw [if_neg h, if_pos h0, h0, Int.min_self, Int.max_self]; rfl
theorem arrS_more {x : Town} {s : Span × Int} {l : List Int} (h : ¬ fld x l < 0) (h0 : ¬ s.2 = 0) : arrStep x s l = (⟨min s.1.lo (fld x l + x.travel), max s.1.hi (fld x l + x.travel)⟩, s.2 + 1) := by
  unfold fld at *
  unfold arrStep
  rw [if_neg h, if_neg h0]
theorem arrP_bd {t : Task} (ht : TaskOk t) {x : Town} (hx : TownOk t x) (k : Nat) : ((0 ≤ (arrP t x k).1.lo ∧ (arrP t x k).1.lo ≤ 200500) ∧ (0 ≤ (arrP t x k).1.hi ∧ (arrP t x k).1.hi ≤ 200500)) ∧ 0 ≤ (arrP t x k).2 ∧ (arrP t x k).2 ≤ 8 := by
  have := fold_bd ht hx k
  simp only at this
  unfold arrP
  omega
theorem arrP_zero (t : Task) (x : Town) : arrP t x 0 = (⟨0, 0⟩, 0) := rfl
theorem fld_at {t : Task} (hok : TaskOk t) {i : Int} (hi : 0 ≤ i ∧ i < t.towns.length) {l : List Int} (hl : l ∈ t.floods) : l[(twn t i).polder.toNat]? = some (fld (twn t i) l) ∧ -1 ≤ fld (twn t i) l ∧ fld (twn t i) l ≤ 200000 := by
  have hf := hok.flood l hl
  have hp := (town_ok hok hi).pol
  have hin : (twn t i).polder.toNat < l.length := by omega
  have e : fld (twn t i) l = l[(twn t i).polder.toNat] := by unfold fld; simp [List.getD, hin]
  rw [e]
  exact ⟨List.getElem?_eq_getElem hin, hf.2 _ (List.getElem_mem hin)⟩
theorem ofE_yes {t : Task} {i : Int} (h : (decide ((checkA t).2.2 = 0) && !inB i 0 ((t.towns.length : Int) - 1)) = true) : ofE t i = 4 := by
  rw [Bool.and_eq_true, decide_eq_true_eq, inB_not] at h
  unfold ofE
  rw [if_neg (fun k => k h.1), if_pos h.2]
theorem ofE_no {t : Task} {i : Int} (h : (decide ((checkA t).2.2 = 0) && !inB i 0 ((t.towns.length : Int) - 1)) = false) : ofE t i = (checkA t).2.2 := by
  rw [Bool.and_eq_false_iff, decide_eq_false_iff_not, inB_not] at h
  unfold ofE
  split
  next => rfl
  next h1 => rw [if_neg (by rw [h.resolve_left (fun k => k (Decidable.not_not.1 h1))]; decide)]; omega
theorem stage_2 {t : Task} {i now : Int} (h0 : ¬ (arr t i).2 = 0) (h : (decide ((arr t i).2 = t.floods.length) || decide ((arr t i).1.lo - (twn t i).lead ≤ now)) = true) : stageF t i now = 2 := by
  rw [Bool.or_eq_true, decide_eq_true_eq, decide_eq_true_eq] at h
  unfold stageF actF
  rw [if_neg h0]
  rcases h with h | h
  · rw [if_pos h]
  · rw [if_pos h]; split <;> rfl
theorem stage_1 {t : Task} {i now : Int} (h0 : ¬ (arr t i).2 = 0) (h : (decide ((arr t i).2 = t.floods.length) || decide ((arr t i).1.lo - (twn t i).lead ≤ now)) = false) : stageF t i now = 1 := by
  rw [Bool.or_eq_false_iff, decide_eq_false_iff_not, decide_eq_false_iff_not] at h
  unfold stageF actF
  rw [if_neg h0, if_neg h.1, if_neg h.2]
theorem stageR_7 {t : Task} {i now : Int} (h : (decide (ofE t i = 0) && !inB now 0 200000) = true) : stageR t i now = (0, 7) := by
  rw [Bool.and_eq_true, decide_eq_true_eq, inB_not] at h
  unfold stageR
  rw [if_neg (fun k => k h.1), if_pos h.2]
theorem stageR_0 {t : Task} {i now : Int} (h : (decide (ofE t i = 0) && !inB now 0 200000) = false) (h0 : ofE t i = 0) : stageR t i now = (stageF t i now, 0) := by
  rw [Bool.and_eq_false_iff, decide_eq_false_iff_not, inB_not] at h
  unfold stageR
  rw [if_neg (fun k => k h0), if_neg (by rw [h.resolve_left (fun k => k h0)]; decide)]
/-! ### the log -/
def prv (log : List Msg) (k : Nat) : Int := if k = 0 then 0 else (log.getD (k - 1) ⟨0, 0, 0, 0, 0⟩).sent
theorem prv_succ {log : List Msg} {k : Nat} {x : Msg} (h : log[k]? = some x) : prv log (k + 1) = x.sent := by
  unfold prv
  rw [if_neg (by omega), Nat.add_sub_cancel, getD_hit h]
def badR (t : Task) (x : Msg) (k : Nat) (p : Int) : Bool := ((((decide (x.number ≠ (k : Int) + 1) || !inB x.town 0 ((t.towns.length : Int) - 1)) || !inB x.stage 0 2) || !inB x.channel 0 ((t.chans.length : Int) - 1)) || !inB x.sent 0 200000) || (decide (0 < (k : Int)) && decide (x.sent < p))
theorem badR_eq {t : Task} {x : Msg} {k : Nat} {p q : Int} (h0 : 0 ≤ q) (hp : 0 < (k : Int) → p = q) (hz : k = 0 → q = 0) : badR t x k p = badM t x k q := by
  unfold badR badM
  simp only [inB_not, Bool.or_assoc]
  congr 4
  rw [Bool.eq_iff_iff]
  simp only [outB, Bool.or_eq_true, Bool.and_eq_true, decide_eq_true_eq]
  by_cases hk : 0 < (k : Int)
  · rw [hp hk]; omega
  · rw [hz (by omega)]; omega
theorem wrong_step {t : Task} {log : List Msg} {k : Nat} {x : Msg} (hd : log.drop k = x :: log.drop (k + 1)) (hx : log[k]? = some x) (hb : badM t x k (prv log k) = false) : wrongL t (log.drop k) k (prv log k) = wrongL t (log.drop (k + 1)) ((k + 1 : Nat) : Int) (prv log (k + 1)) := by
  rw [hd, wrongL, if_neg (by rw [hb]; decide), prv_succ hx]; rfl
theorem wrong_hit {t : Task} {log : List Msg} {k : Nat} {x : Msg} (hd : log.drop k = x :: log.drop (k + 1)) (hb : badM t x k (prv log k) = true) : wrongL t (log.drop k) k (prv log k) = 6 := by
  rw [hd, wrongL, if_pos hb]
theorem badM_sent {t : Task} {x : Msg} {i b : Int} (h : badM t x i b = false) (hb : 0 ≤ b) : 0 ≤ x.sent := by
  simp only [badM, Bool.or_eq_false_iff, outB_false] at h
  omega
/-! ### what a town knows, from the front -/
def knS (t : Task) (i tk : Int) (log : List Msg) : Int × Int := log.foldl (fun o x => if hitM t i tk x = true then (x.stage, x.number) else o) (0, 0)
theorem knS_snoc (t : Task) (i tk : Int) (log : List Msg) (x : Msg) : knS t i tk (log ++ [x]) = if hitM t i tk x = true then (x.stage, x.number) else knS t i tk log := by unfold knS; rw [List.foldl_append]; rfl
theorem knS_bk {t : Task} {i tk : Int} {log : List Msg} : ∀ k, k ≤ log.length → knS t i tk (log.take k) = match (bk log k).find? (hitB t i tk) with | none => (0, 0) | some y => (y.2.stage, y.2.number)
  | 0, _ => rfl
  | k + 1, h => by
    obtain ⟨x, hx, -⟩ := drop_of (l := log) (k := k) (by omega)
    rw [take_snoc hx, knS_snoc, bk_hit hx, List.find?_cons]
    have e : hitB t i tk ((k : Int), x) = hitM t i tk x := rfl
    rw [e]
    cases hq : hitM t i tk x with
    | true => rfl
    | false => exact knS_bk k (by omega)
theorem knowsR_S {t : Task} {log : List Msg} {i tk : Int} (h : knowsE t log i tk = 0) : knowsR t log i tk = ((knS t i tk log).1, (knS t i tk log).2, 0) := by
  have e := knS_bk (t := t) (i := i) (tk := tk) (log := log) log.length (Nat.le_refl _)
  rw [List.take_length] at e
  rw [e]
  unfold knowsR knowO
  rw [if_neg (fun h' => h' h)]
  cases (bk log log.length).find? (hitB t i tk) <;> rfl
/-! ### the channel of a message -/
def byStep (t : Task) (all : List Msg) (now : Int) (o : Int) (c : Int) : Int := if usedF all now c < (chn t c).room ∧ (o < 0 ∨ (chn t c).delay < (chn t o).delay) then c else o
def byR (t : Task) (all : List Msg) (now : Int) (cs : List Int) : Int := cs.foldl (byStep t all now) (-1)
theorem byR_snoc (t : Task) (all : List Msg) (now : Int) (cs : List Int) (c : Int) : byR t all now (cs ++ [c]) = byStep t all now (byR t all now cs) c := by unfold byR; rw [List.foldl_append]; rfl
theorem ins_last {f : Int → Int} {x : Int} : ∀ {p : List Int}, (p.Pairwise fun a b => f b ≤ f a) → (insV f x p).getLast? = match p.getLast? with | none => some x | some z => if f x < f z then some x else some z
  | [], _ => rfl
  | y :: p, h => by
    have h1 := List.pairwise_cons.1 h
    have ih := ins_last (f := f) (x := x) h1.2
    rw [insV]
    cases hp : p.getLast? with
    | none =>
      obtain rfl : p = [] := by simpa using hp
      by_cases hlt : f x < f y
      · rw [if_pos hlt]; simp [insV, hlt]
      · rw [if_neg hlt]; simp [hlt]
    | some z =>
      have hz : z ∈ p := List.mem_of_getLast? hp
      have hne : p ≠ [] := by rintro rfl; cases hp
      have e1 : (y :: p).getLast? = some z := by rw [List.getLast?_cons_of_ne_nil hne]; exact hp
      rw [e1]
      rw [hp] at ih
      by_cases hlt : f x < f y
      · rw [if_pos hlt, List.getLast?_cons_of_ne_nil (by intro e; have := (insV_perm f x p).length_eq; rw [e] at this; simp at this)]
        exact ih
      · have := h1.1 z hz
        rw [if_neg hlt, List.getLast?_cons_of_ne_nil (by simp), e1]
        show some z = if f x < f z then some x else some z
        rw [if_neg (by omega)]
theorem sortR_keys (f : Int → Int) (l : List Int) : (sortR f l).Pairwise fun a b => f b ≤ f a := by
  have := sortV_keys (f := f) l
  unfold sortV at this
  exact List.pairwise_reverse.1 this
theorem sortV_head (f : Int → Int) (l : List Int) (x : Int) : (sortV f (l ++ [x])).head? = match (sortV f l).head? with | none => some x | some z => if f x < f z then some x else some z := by
  unfold sortV
  rw [List.head?_reverse, List.head?_reverse, sortR_snoc]
  exact ins_last (sortR_keys f l)
def byG (t : Task) (all : List Msg) (now : Int) (cs : List Int) : Option Int := (sortV (fun c => (chn t c).delay) (cs.filter fun c => !decide (roomF t all now c ≤ 0))).head?
theorem byF_G (t : Task) (all : List Msg) (now i : Int) : byF t all now i = byG t all now (twn t i).chans := rfl
theorem by_same {t : Task} {all : List Msg} {now : Int} (cs : List Int) (h : ∀ c ∈ cs, 0 ≤ c) : (byG t all now cs = none ∧ byR t all now cs = -1) ∨ ∃ c, byG t all now cs = some c ∧ byR t all now cs = c ∧ c ∈ cs := by
  induction cs using snocR with
  | h0 => exact .inl ⟨rfl, rfl⟩
  | h1 l x ih =>
    have ih := ih fun c hc => h c (List.mem_append_left _ hc)
    have hx := h x (by simp)
    have hr : (!decide (roomF t all now x ≤ 0)) = decide (usedF all now x < (chn t x).room) := by
      unfold roomF
      rw [Bool.eq_iff_iff]; simp; try omega
    rw [byR_snoc]
    unfold byG at ih ⊢
    rw [List.filter_append]
    by_cases hu : usedF all now x < (chn t x).room
    · rw [List.filter_cons_of_pos (by rw [hr]; simpa using hu), List.filter_nil, sortV_head]
      rcases ih with ⟨i1, i2⟩ | ⟨c, i1, i2, i3⟩
      · rw [i1, i2]
        refine .inr ⟨x, rfl, ?_, by simp⟩
        unfold byStep; rw [if_pos ⟨hu, .inl (by decide)⟩]
      · rw [i1, i2]
        have hc := h c (List.mem_append_left _ i3)
        unfold byStep
        by_cases hd : (chn t x).delay < (chn t c).delay
        · exact .inr ⟨x, if_pos hd, if_pos ⟨hu, .inr hd⟩, by simp⟩
        · exact .inr ⟨c, if_neg hd, if_neg (fun h => by rcases h.2 with h | h; omega; exact hd h), by simp [i3]⟩
    · rw [List.filter_cons_of_neg (by rw [hr]; simpa using hu), List.filter_nil, List.append_nil]
      have e : byStep t all now (byR t all now l) x = byR t all now l := by unfold byStep; rw [if_neg (fun h => hu h.1)]
      rw [e]
      rcases ih with ih | ⟨c, i1, i2, i3⟩
      · exact .inl ih
      · exact .inr ⟨c, i1, i2, by simp [i3]⟩
end Bx
/- part Aw30 -/
namespace Go.Proofs.YtmoilbakmlekbaaGreatDoor
open Go Bx
/-- barrage/barrageref11.good -/
theorem c_rgood {t : Task} {hv nv fv : Value} {w0 : World} (h : RTask w0 [.int .i64 t.polders, hv, nv, fv] t) : CV Tryz.prog 77 #[.agg [.int .i64 t.polders, hv, nv, fv].toArray] w0 (.int .i64 (checkA t).2.2) := by
  obtain ⟨hv', nv', fv', he0, hpol, hsh, hsn, hsf⟩ := id h
  obtain ⟨rfl, rfl, rfl⟩ : hv' = hv ∧ nv' = nv ∧ fv' = fv := by simpa [eq_comm] using he0
  obtain ⟨a1, cap1, rfl, hcap1, hmx1, hel1⟩ := id hsh
  obtain ⟨a2, cap2, rfl, hcap2, hmx2, hel2⟩ := id hsn
  obtain ⟨a3, cap3, rfl, hcap3, hmx3, hel3⟩ := id hsf
  refine enter Tryz.func77 rfl Tryz.ntmps77 rfl ?_
  have hS := St.start w0
  refine seq ?_
  refine region ?_
  refine sbox hS rfl rfl ?_; clear hS; intro b1 w hS
  refine sv (yAsg rfl) ?_
  refine nil ?_
  show Code.wp _ _ _ _ _
  refine seq ?_
  refine region ?_
  refine sv (yLdBA rfl Tryz.isAgg26 Tryz.sizeOf26 (hS.at _) rfl rfl) ?_
  refine scall Tryz.call22 (.cons rfl .nil) (c_rCheck (h.ext hS.ext)) ?_
  rintro _ w ⟨rfl, hE⟩; replace hS := hS.step hE; clear hE
  refine sv (yMove rfl) ?_
  refine sv (yExt rfl rfl) ?_
  refine sv (yExt rfl rfl) ?_
  refine sv (yExt rfl rfl) ?_
  refine sv (yAsg rfl) ?_
  refine sv (yAsg rfl) ?_
  refine sv (yAsg rfl) ?_
  refine nil ?_
  show Code.wp _ _ _ _ _
  refine seq ?_
  refine region ?_
  refine sv (yMove rfl) ?_
  refine sv (yAsg rfl) ?_
  refine nil ?_
  show Code.wp _ _ _ _ _
  refine wp_ret ?_
  exact retV (res1 rfl rfl) hS.ext
set_option maxHeartbeats 1000000 in
/-- barrage/barrageref11.asked -/
theorem c_rasked {t : Task} {hv nv fv : Value} {i : Int} {w0 : World} (h : RTask w0 [.int .i64 t.polders, hv, nv, fv] t) : CV Tryz.prog 70 #[.agg [.int .i64 t.polders, hv, nv, fv].toArray, .int .i64 i] w0 (.int .i64 (ofE t i)) := by
  obtain ⟨hv', nv', fv', he0, hpol, hsh, hsn, hsf⟩ := id h
  obtain ⟨rfl, rfl, rfl⟩ : hv' = hv ∧ nv' = nv ∧ fv' = fv := by simpa [eq_comm] using he0
  obtain ⟨a1, cap1, rfl, hcap1, hmx1, hel1⟩ := id hsh
  obtain ⟨a2, cap2, rfl, hcap2, hmx2, hel2⟩ := id hsn
  obtain ⟨a3, cap3, rfl, hcap3, hmx3, hel3⟩ := id hsf
  refine enter Tryz.func70 rfl Tryz.ntmps70 rfl ?_
  have hS := St.start w0
  refine seq ?_
  refine region ?_
  refine sbox hS rfl rfl ?_; clear hS; intro b2 w hS
  refine sv (yAsg rfl) ?_
  refine nil ?_
  show Code.wp _ _ _ _ _
  refine seq ?_
  refine region ?_
  refine sv (yLdBA rfl Tryz.isAgg26 Tryz.sizeOf26 (hS.at _) rfl rfl) ?_
  refine scall Tryz.call77 (.cons rfl .nil) (c_rgood (h.ext hS.ext)) ?_
  rintro _ w ⟨rfl, hE⟩; replace hS := hS.step hE; clear hE
  refine sv (yAsg rfl) ?_
  refine nil ?_
  show Code.wp _ _ _ _ _
  refine seq ?_
  refine seq ?_
  refine region ?_
  refine sv (yMove rfl) ?_
  refine sv (yEql rfl rfl) ?_
  refine sv (yMove rfl) ?_
  refine sg rfl rfl rfl (fun g => (yMove rfl)) (fun v11 g11 => ?_)
  refine sg rfl rfl rfl (fun g => (fa26_2 rfl)) (fun v12 g12 => ?_)
  refine sg rfl rfl rfl (fun g => (yLdB (g12.1 g) Tryz.isAgg23 (hS.at _) rfl)) (fun v13 g13 => ?_)
  refine sg rfl rfl rfl (fun g => (yLen (g13.1 g) Tryz.underlying23)) (fun v14 g14 => ?_)
  refine sg rfl rfl rfl (fun g => (ySub (g14.1 g) rfl ⟨by omega, by omega⟩)) (fun v15 g15 => ?_)
  refine sgc hS rfl rfl rfl Tryz.call66 (fun g => (.cons (g11.1 g) (.cons rfl (.cons (g15.1 g) .nil)))) (fun g => c_rin) ?_; clear hS; intro v16 w hS g16
  refine sg rfl rfl rfl (fun g => (yNot (g16.1 g))) (fun v17 g17 => ?_)
  refine sv (yAnd rfl (fun hB => (g17.1 hB)) rfl) ?_
  refine nil ?_
  show Code.wp _ _ _ _ _
  refine cond rfl (fun c18 => ?_) (fun c18 => ?_)
  ·
    refine region ?_
    refine sv (yAsg rfl) ?_
    refine nil ?_
    show Code.wp _ _ _ _ _
    refine seq ?_
    refine region ?_
    refine sv (yMove rfl) ?_
    refine sv (yAsg rfl) ?_
    refine nil ?_
    show Code.wp _ _ _ _ _
    refine wp_ret ?_
    exact retV (res1 rfl (eqI (ofE_yes c18))) hS.ext
  ·
    refine skip ?_
    show Code.wp _ _ _ _ _
    refine seq ?_
    refine region ?_
    refine sv (yMove rfl) ?_
    refine sv (yAsg rfl) ?_
    refine nil ?_
    show Code.wp _ _ _ _ _
    refine wp_ret ?_
    exact retV (res1 rfl (eqI (ofE_no c18))) hS.ext
set_option maxHeartbeats 2000000 in
/-- barrage/barrageref11.arrival -/
theorem c_rarr {t : Task} {hv nv fv : Value} {i : Int} {w0 : World} (h : RTask w0 [.int .i64 t.polders, hv, nv, fv] t) (hok : TaskOk t) (hi : 0 ≤ i ∧ i < t.towns.length) : CV Tryz.prog 71 #[.agg [.int .i64 t.polders, hv, nv, fv].toArray, .int .i64 i] w0 (.tuple #[.agg (spanC (arr t i).1).toArray, .int .i64 (arr t i).2]) := by
  obtain ⟨hv', nv', fv', he0, hpol, hsh, hsn, hsf⟩ := id h
  obtain ⟨rfl, rfl, rfl⟩ : hv' = hv ∧ nv' = nv ∧ fv' = fv := by simpa [eq_comm] using he0
  obtain ⟨a1, cap1, rfl, hcap1, hmx1, hel1⟩ := id hsh
  obtain ⟨a2, cap2, rfl, hcap2, hmx2, hel2⟩ := id hsn
  obtain ⟨a3, cap3, rfl, hcap3, hmx3, hel3⟩ := id hsf
  obtain ⟨bt, ot, cst, hat, hlt, hcst, hRt, -⟩ := sl_at hsn (twn_i (t := t) hi)
  obtain ⟨dvt, rfl, -, -, -, -, hslt, -⟩ := hRt
  have hto := town_ok hok hi
  have htp := hto.pol
  have htr := hto.travel
  have htl := hto.lead
  refine enter Tryz.func71 rfl Tryz.ntmps71 rfl ?_
  have hS := St.start w0
  refine seq ?_
  refine region ?_
  refine sbox hS rfl rfl ?_; clear hS; intro b2 w hS
  refine salloc hS Tryz.zeroValue44 rfl ?_; clear hS; intro b4 w hS
  refine sv (yAsg rfl) ?_
  refine nil ?_
  show Code.wp _ _ _ _ _
  refine seq ?_
  refine region ?_
  refine salloc hS Tryz.zeroValue44 rfl ?_; clear hS; intro b6 w hS
  refine nil ?_
  show Code.wp _ _ _ _ _
  refine seq ?_
  refine region ?_
  refine sv (yAsg rfl) ?_
  refine nil ?_
  show Code.wp _ _ _ _ _
  refine seq ?_
  refine seq ?_
  refine region ?_
  refine sv (yAsg rfl) ?_
  refine nil ?_
  show Code.wp _ _ _ _ _
  refine block ?_
  refine loop (fun f w zz => ∃ (k : Nat), f 1 = .int .i64 i ∧ f 2 = .pointer (some ⟨b2, 0, none⟩) ∧ f 4 = .pointer (some ⟨b4, 0, none⟩) ∧ f 6 = .pointer (some ⟨b6, 0, none⟩) ∧ f 7 = .int .i64 (arrP t (twn t i) k).2 ∧ f 8 = .int .i64 (k : Int) ∧ StX [] w0 w [blk b6 (spanC (arrP t (twn t i) k).1) 44, blk b4 [.int .i64 0, .int .i64 0] 44, blk b2 [.int .i64 t.polders, .slice a1 t.chans.length cap1, .slice a2 t.towns.length cap2, .slice a3 t.floods.length cap3] 26] ∧ (k ≤ t.floods.length) ∧ zz = t.floods.length - k) _ ⟨_, rfl, 0, rfl, rfl, rfl, rfl, rfl, rfl, hS, (Nat.zero_le _), rfl⟩ ?_
  clear hS
  rintro f w _ ⟨k, h1, h2, h4, h6, h7, h8, hS, hk, rfl⟩
  refine seq ?_
  refine seq ?_
  refine region ?_
  refine sv (yMove h8) ?_
  refine sv (fa26_3 h2) ?_
  refine sv (yLdB rfl Tryz.isAgg24 (hS.at _) rfl) ?_
  refine sv (yLen rfl Tryz.underlying24) ?_
  refine sv (yLss rfl rfl) ?_
  refine nil ?_
  show Code.wp _ _ _ _ _
  refine cond rfl (fun c14 => ?_) (fun c14 => ?_)
  ·
    simp only [Bool.and_eq_true, Bool.or_eq_true, Bool.and_eq_false_iff, Bool.or_eq_false_iff, decide_eq_true_eq, decide_eq_false_iff_not, Bool.not_eq_true, Bool.not_eq_false, Bool.not_not, Bool.not_eq_eq_eq_not, Bool.not_true, Bool.not_false, Bool.false_eq_true, Bool.true_eq_false, ne_eq, Decidable.not_not, not_false_eq_true, not_true_eq_false] at c14
    obtain ⟨l, hl, -⟩ := drop_of (l := t.floods) (k := k) (by omega)
    obtain ⟨bl, ol, csl, hal, hll, hcsl, hRl, -⟩ := sl_at hsf hl
    obtain ⟨lv, rfl, hsl⟩ := hRl
    obtain ⟨al, cl2, rfl, -⟩ := id hsl
    obtain ⟨hpl, hfb⟩ := fld_at hok hi (List.mem_of_getElem? hl)
    obtain ⟨bp, op, csp, hap, hlp, hcsp, hRp, hpn⟩ := sl_at hsl hpl
    obtain ⟨rfl, -⟩ := hRp
    have hpb := arrP_bd hok hto k
    refine skip ?_
    show Code.wp _ _ _ _ _
    refine seq ?_
    refine block ?_
    refine seq ?_
    refine region_draw mixed (by kernel_rfl) hS ?_
    refine qv (fun w hS => (fa26_3 h2)) ?_
    refine qv (fun w hS => (yLdB rfl Tryz.isAgg24 (hS.at _) rfl)) ?_
    refine qv (fun w hS => (yMove h8)) ?_
    refine qv (fun w hS => (yIxa rfl hal rfl Tryz.runUnderlying24 Tryz.sizeOf34 (by omega) (by omega))) ?_
    refine qv (fun w hS => (yLd rfl Tryz.isAgg34 ((hcsl.ext hS.ext).one))) ?_
    refine qv (fun w hS => (fa26_2 h2)) ?_
    refine qv (fun w hS => (yLdB rfl Tryz.isAgg23 (hS.at _) rfl)) ?_
    refine qv (fun w hS => (yMove h1)) ?_
    refine qv (fun w hS => (yIxa rfl hat rfl Tryz.runUnderlying23 Tryz.sizeOf36 (by omega) (by omega))) ?_
    refine qv (fun w hS => (fa36_1 rfl)) ?_
    refine qv (fun w hS => (yLd rfl Tryz.isAgg3 ((hcst.ext hS.ext).at (j := 1) rfl))) ?_
    refine qv (fun w hS => (yIxa rfl hap rfl Tryz.runUnderlying34 Tryz.sizeOf3 (by omega) (by omega))) ?_
    refine qv (fun w hS => (yLd rfl Tryz.isAgg3 ((hcsp.ext hS.ext).one))) ?_
    refine qv (fun w hS => (yAsg rfl)) ?_
    clear hS; refine qnil (fun w hS => ?_)
    show Code.wp _ _ _ _ _
    refine seq ?_
    refine seq ?_
    refine region ?_
    refine sv (yMove rfl) ?_
    refine sv (yLss rfl rfl) ?_
    refine nil ?_
    show Code.wp _ _ _ _ _
    refine cond rfl (fun c31 => ?_) (fun c31 => ?_)
    ·
      simp only [Bool.and_eq_true, Bool.or_eq_true, Bool.and_eq_false_iff, Bool.or_eq_false_iff, decide_eq_true_eq, decide_eq_false_iff_not, Bool.not_eq_true, Bool.not_eq_false, Bool.not_not, Bool.not_eq_eq_eq_not, Bool.not_true, Bool.not_false, Bool.false_eq_true, Bool.true_eq_false, ne_eq, Decidable.not_not, not_false_eq_true, not_true_eq_false] at c31
      refine exit ?_
      show Code.wp _ _ _ _ _
      refine region ?_
      refine sv (yMove h8) ?_
      refine sv (yAdd rfl rfl ⟨by omega, by omega⟩) ?_
      refine sv (yAsg rfl) ?_
      refine nil ?_
      have e := (arrP_succ (x := twn t i) hl).trans (arrS_skip c31)
      exact ⟨_, _, rfl, ⟨k + 1, h1, h2, h4, h6, (h7.trans (congrArg (fun q : Bx.Span × Int => Value.int .i64 q.2) e).symm), rfl, (by rw [e]; exact hS), (by omega), rfl⟩, by omega⟩
    ·
      simp only [Bool.and_eq_true, Bool.or_eq_true, Bool.and_eq_false_iff, Bool.or_eq_false_iff, decide_eq_true_eq, decide_eq_false_iff_not, Bool.not_eq_true, Bool.not_eq_false, Bool.not_not, Bool.not_eq_eq_eq_not, Bool.not_true, Bool.not_false, Bool.false_eq_true, Bool.true_eq_false, ne_eq, Decidable.not_not, not_false_eq_true, not_true_eq_false] at c31
      refine skip ?_
      show Code.wp _ _ _ _ _
      refine seq ?_
      refine region ?_
      refine sv (yMove rfl) ?_
      refine sv (fa26_2 h2) ?_
      refine sv (yLdB rfl Tryz.isAgg23 (hS.at _) rfl) ?_
      refine sv (yMove h1) ?_
      refine sv (yIxa rfl hat rfl Tryz.runUnderlying23 Tryz.sizeOf36 (by omega) (by omega)) ?_
      refine sv (fa36_2 rfl) ?_
      refine sv (yLd rfl Tryz.isAgg3 ((hcst.ext hS.ext).at (j := 2) rfl)) ?_
      refine sv (yAdd rfl rfl ⟨by omega, by omega⟩) ?_
      refine sv (yAsg rfl) ?_
      refine nil ?_
      show Code.wp _ _ _ _ _
      refine seq ?_
      refine seq ?_
      refine region ?_
      refine sv (yMove h7) ?_
      refine sv (yEql rfl rfl) ?_
      refine nil ?_
      show Code.wp _ _ _ _ _
      refine cond rfl (fun c41 => ?_) (fun c41 => ?_)
      ·
        simp only [Bool.and_eq_true, Bool.or_eq_true, Bool.and_eq_false_iff, Bool.or_eq_false_iff, decide_eq_true_eq, decide_eq_false_iff_not, Bool.not_eq_true, Bool.not_eq_false, Bool.not_not, Bool.not_eq_eq_eq_not, Bool.not_true, Bool.not_false, Bool.false_eq_true, Bool.true_eq_false, ne_eq, Decidable.not_not, not_false_eq_true, not_true_eq_false] at c41
        refine region ?_
        refine sv (yMove rfl) ?_
        refine sv (yMove rfl) ?_
        refine sv (yBuild Tryz.zeroValue44 rfl pl44 (.cons rfl rfl (.cons rfl rfl .nil)) rfl) ?_
        refine sst hS h6 rfl Tryz.sizeOf44 rfl rfl rfl rfl ?_; clear hS; intro w hS
        refine nil ?_
        show Code.wp _ _ _ _ _
        refine seq ?_
        refine region ?_
        refine sv (fa44_0 h6) ?_
        refine sv (yLdB rfl Tryz.isAgg3 (hS.at _) rfl) ?_
        refine sv (yMove rfl) ?_
        refine sv (yMin rfl rfl) ?_
        refine sv (fa44_1 h6) ?_
        refine sv (yLdB rfl Tryz.isAgg3 (hS.at _) rfl) ?_
        refine sv (yMove rfl) ?_
        refine sv (yMax rfl rfl) ?_
        refine sv (yBuild Tryz.zeroValue44 rfl pl44 (.cons rfl rfl (.cons rfl rfl .nil)) rfl) ?_
        refine sst hS h6 rfl Tryz.sizeOf44 rfl rfl rfl rfl ?_; clear hS; intro w hS
        refine nil ?_
        show Code.wp _ _ _ _ _
        refine region ?_
        refine sv (yMove h7) ?_
        refine sv (yAdd rfl rfl ⟨by omega, by omega⟩) ?_
        refine sv (yAsg rfl) ?_
        refine nil ?_
        show Code.wp _ _ _ _ _
        refine region ?_
        refine sv (yMove h8) ?_
        refine sv (yAdd rfl rfl ⟨by omega, by omega⟩) ?_
        refine sv (yAsg rfl) ?_
        refine nil ?_
        have e := (arrP_succ (x := twn t i) hl).trans (arrS_zero c31 c41)
        exact ⟨_, _, rfl, ⟨k + 1, h1, h2, h4, h6, (rfl.trans (congrArg (fun q : Bx.Span × Int => Value.int .i64 q.2) e).symm), rfl, (by rw [e]; exact hS), (by omega), rfl⟩, by omega⟩
      ·
        simp only [Bool.and_eq_true, Bool.or_eq_true, Bool.and_eq_false_iff, Bool.or_eq_false_iff, decide_eq_true_eq, decide_eq_false_iff_not, Bool.not_eq_true, Bool.not_eq_false, Bool.not_not, Bool.not_eq_eq_eq_not, Bool.not_true, Bool.not_false, Bool.false_eq_true, Bool.true_eq_false, ne_eq, Decidable.not_not, not_false_eq_true, not_true_eq_false] at c41
        refine skip ?_
        show Code.wp _ _ _ _ _
        refine seq ?_
        refine region ?_
        refine sv (fa44_0 h6) ?_
        refine sv (yLdB rfl Tryz.isAgg3 (hS.at _) rfl) ?_
        refine sv (yMove rfl) ?_
        refine sv (yMin rfl rfl) ?_
        refine sv (fa44_1 h6) ?_
        refine sv (yLdB rfl Tryz.isAgg3 (hS.at _) rfl) ?_
        refine sv (yMove rfl) ?_
        refine sv (yMax rfl rfl) ?_
        refine sv (yBuild Tryz.zeroValue44 rfl pl44 (.cons rfl rfl (.cons rfl rfl .nil)) rfl) ?_
        refine sst hS h6 rfl Tryz.sizeOf44 rfl rfl rfl rfl ?_; clear hS; intro w hS
        refine nil ?_
        show Code.wp _ _ _ _ _
        refine region ?_
        refine sv (yMove h7) ?_
        refine sv (yAdd rfl rfl ⟨by omega, by omega⟩) ?_
        refine sv (yAsg rfl) ?_
        refine nil ?_
        show Code.wp _ _ _ _ _
        refine region ?_
        refine sv (yMove h8) ?_
        refine sv (yAdd rfl rfl ⟨by omega, by omega⟩) ?_
        refine sv (yAsg rfl) ?_
        refine nil ?_
        have e := (arrP_succ (x := twn t i) hl).trans (arrS_more c31 c41)
        exact ⟨_, _, rfl, ⟨k + 1, h1, h2, h4, h6, (rfl.trans (congrArg (fun q : Bx.Span × Int => Value.int .i64 q.2) e).symm), rfl, (by rw [e]; exact hS), (by omega), rfl⟩, by omega⟩
  ·
    simp only [Bool.and_eq_true, Bool.or_eq_true, Bool.and_eq_false_iff, Bool.or_eq_false_iff, decide_eq_true_eq, decide_eq_false_iff_not, Bool.not_eq_true, Bool.not_eq_false, Bool.not_not, Bool.not_eq_eq_eq_not, Bool.not_true, Bool.not_false, Bool.false_eq_true, Bool.true_eq_false, ne_eq, Decidable.not_not, not_false_eq_true, not_true_eq_false] at c14
    obtain rfl : k = t.floods.length := by omega
    rw [arrP_end] at hS h7
    refine exit ?_
    show Code.wp _ _ _ _ _
    refine seq ?_
    refine region ?_
    refine sv (yLdBA h6 Tryz.isAgg44 Tryz.sizeOf44 (hS.at _) rfl rfl) ?_
    refine sv (yMove h7) ?_
    refine sst hS h4 rfl Tryz.sizeOf44 rfl rfl rfl rfl ?_; clear hS; intro w hS
    refine sv (yAsg rfl) ?_
    refine nil ?_
    show Code.wp _ _ _ _ _
    refine wp_ret ?_
    exact retV (resV2 rfl (rc h4 Tryz.isAgg44 Tryz.sizeOf44 (hS.at _) rfl rfl) (rt rfl)) hS.ext
set_option maxHeartbeats 1000000 in
/-- barrage/barrageref11.Arrival -/
theorem c_rArrival {t : Task} {hv nv fv : Value} {i : Int} {w0 : World} (h : RTask w0 [.int .i64 t.polders, hv, nv, fv] t) : CV Tryz.prog 24 #[.agg [.int .i64 t.polders, hv, nv, fv].toArray, .int .i64 i] w0 (.tuple #[.agg (spanC (arrR t i).1.1).toArray, .int .i64 (arrR t i).1.2, .int .i64 (arrR t i).2]) := by
  obtain ⟨hv', nv', fv', he0, hpol, hsh, hsn, hsf⟩ := id h
  obtain ⟨rfl, rfl, rfl⟩ : hv' = hv ∧ nv' = nv ∧ fv' = fv := by simpa [eq_comm] using he0
  obtain ⟨a1, cap1, rfl, hcap1, hmx1, hel1⟩ := id hsh
  obtain ⟨a2, cap2, rfl, hcap2, hmx2, hel2⟩ := id hsn
  obtain ⟨a3, cap3, rfl, hcap3, hmx3, hel3⟩ := id hsf
  refine enter Tryz.func24 rfl Tryz.ntmps24 rfl ?_
  have hS := St.start w0
  refine seq ?_
  refine region ?_
  refine sbox hS rfl rfl ?_; clear hS; intro b2 w hS
  refine salloc hS Tryz.zeroValue44 rfl ?_; clear hS; intro b4 w hS
  refine sv (yAsg rfl) ?_
  refine sv (yAsg rfl) ?_
  refine nil ?_
  show Code.wp _ _ _ _ _
  refine seq ?_
  refine region ?_
  refine sv (yLdBA rfl Tryz.isAgg26 Tryz.sizeOf26 (hS.at _) rfl rfl) ?_
  refine sv (yMove rfl) ?_
  refine scall Tryz.call70 (.cons rfl (.cons rfl .nil)) (c_rasked (h.ext hS.ext)) ?_
  rintro _ w ⟨rfl, hE⟩; replace hS := hS.step hE; clear hE
  refine sv (yAsg rfl) ?_
  refine nil ?_
  show Code.wp _ _ _ _ _
  refine seq ?_
  refine seq ?_
  refine region ?_
  refine sv (yMove rfl) ?_
  refine sv (yNeq rfl rfl) ?_
  refine nil ?_
  show Code.wp _ _ _ _ _
  refine cond rfl (fun c14 => ?_) (fun c14 => ?_)
  ·
    simp only [Bool.and_eq_true, Bool.or_eq_true, Bool.and_eq_false_iff, Bool.or_eq_false_iff, decide_eq_true_eq, decide_eq_false_iff_not, Bool.not_eq_true, Bool.not_eq_false, Bool.not_not, Bool.not_eq_eq_eq_not, Bool.not_true, Bool.not_false, Bool.false_eq_true, Bool.true_eq_false, ne_eq, Decidable.not_not, not_false_eq_true, not_true_eq_false] at c14
    refine seq ?_
    refine region ?_
    refine sv (yBuild Tryz.zeroValue44 rfl pl44 .nil rfl) ?_
    refine sv (yMove rfl) ?_
    refine sst hS rfl rfl Tryz.sizeOf44 rfl rfl rfl rfl ?_; clear hS; intro w hS
    refine sv (yAsg rfl) ?_
    refine sv (yAsg rfl) ?_
    refine nil ?_
    show Code.wp _ _ _ _ _
    have hf : arrR t i = ((⟨0, 0⟩, 0), ofE t i) := by unfold arrR; rw [if_pos c14]
    refine wp_ret (thenR ?_)
    exact retE (resV3 rfl (rc rfl Tryz.isAgg44 Tryz.sizeOf44 (hS.at _) rfl rfl) (rt rfl) (rt rfl)) (by rw [hf]; rfl) hS.ext
  ·
    simp only [Bool.and_eq_true, Bool.or_eq_true, Bool.and_eq_false_iff, Bool.or_eq_false_iff, decide_eq_true_eq, decide_eq_false_iff_not, Bool.not_eq_true, Bool.not_eq_false, Bool.not_not, Bool.not_eq_eq_eq_not, Bool.not_true, Bool.not_false, Bool.false_eq_true, Bool.true_eq_false, ne_eq, Decidable.not_not, not_false_eq_true, not_true_eq_false] at c14
    obtain ⟨hok, hi⟩ := ofE_ok c14
    refine skip ?_
    show Code.wp _ _ _ _ _
    refine seq ?_
    refine region ?_
    refine sv (yLdBA rfl Tryz.isAgg26 Tryz.sizeOf26 (hS.at _) rfl rfl) ?_
    refine sv (yMove rfl) ?_
    refine scall Tryz.call71 (.cons rfl (.cons rfl .nil)) (c_rarr (h.ext hS.ext) hok hi) ?_
    rintro _ w ⟨rfl, hE⟩; replace hS := hS.step hE; clear hE
    refine sv (yMove rfl) ?_
    refine sv (yExt rfl rfl) ?_
    refine sv (yExt rfl rfl) ?_
    refine salloc hS Tryz.zeroValue44 rfl ?_; clear hS; intro b8 w hS
    refine sst hS rfl rfl Tryz.sizeOf44 rfl rfl rfl rfl ?_; clear hS; intro w hS
    refine sv (yAsg rfl) ?_
    refine nil ?_
    show Code.wp _ _ _ _ _
    refine seq ?_
    refine region ?_
    refine sv (yLdBA rfl Tryz.isAgg44 Tryz.sizeOf44 (hS.at _) rfl rfl) ?_
    refine sv (yMove rfl) ?_
    refine sst hS rfl rfl Tryz.sizeOf44 rfl rfl rfl rfl ?_; clear hS; intro w hS
    refine sv (yAsg rfl) ?_
    refine sv (yAsg rfl) ?_
    refine nil ?_
    show Code.wp _ _ _ _ _
    have hf : arrR t i = (arr t i, 0) := by unfold arrR; rw [if_neg (fun h => h c14)]
    refine wp_ret ?_
    exact retE (resV3 rfl (rc rfl Tryz.isAgg44 Tryz.sizeOf44 (hS.at _) rfl rfl) (rt rfl) (rt rfl)) (by rw [hf]; rfl) hS.ext
set_option maxHeartbeats 1000000 in
/-- barrage/barrageref11.stage -/
theorem c_rstage {t : Task} {hv nv fv : Value} {i now : Int} {w0 : World} (h : RTask w0 [.int .i64 t.polders, hv, nv, fv] t) (hok : TaskOk t) (hi : 0 ≤ i ∧ i < t.towns.length) : CV Tryz.prog 74 #[.agg [.int .i64 t.polders, hv, nv, fv].toArray, .int .i64 i, .int .i64 now] w0 (.int .i64 (stageF t i now)) := by
  obtain ⟨hv', nv', fv', he0, hpol, hsh, hsn, hsf⟩ := id h
  obtain ⟨rfl, rfl, rfl⟩ : hv' = hv ∧ nv' = nv ∧ fv' = fv := by simpa [eq_comm] using he0
  obtain ⟨a1, cap1, rfl, hcap1, hmx1, hel1⟩ := id hsh
  obtain ⟨a2, cap2, rfl, hcap2, hmx2, hel2⟩ := id hsn
  obtain ⟨a3, cap3, rfl, hcap3, hmx3, hel3⟩ := id hsf
  obtain ⟨bt, ot, cst, hat, hlt, hcst, hRt, -⟩ := sl_at hsn (twn_i (t := t) hi)
  obtain ⟨dvt, rfl, -, -, -, -, hslt, -⟩ := hRt
  have hto := town_ok hok hi
  have htp := hto.pol
  have htr := hto.travel
  have htl := hto.lead
  refine enter Tryz.func74 rfl Tryz.ntmps74 rfl ?_
  have hS := St.start w0
  refine seq ?_
  refine region ?_
  refine sbox hS rfl rfl ?_; clear hS; intro b3 w hS
  refine sv (yAsg rfl) ?_
  refine nil ?_
  show Code.wp _ _ _ _ _
  refine seq ?_
  refine region ?_
  refine sv (yLdBA rfl Tryz.isAgg26 Tryz.sizeOf26 (hS.at _) rfl rfl) ?_
  refine sv (yMove rfl) ?_
  refine scall Tryz.call71 (.cons rfl (.cons rfl .nil)) (c_rarr (h.ext hS.ext) hok hi) ?_
  rintro _ w ⟨rfl, hE⟩; replace hS := hS.step hE; clear hE
  refine sv (yMove rfl) ?_
  refine sv (yExt rfl rfl) ?_
  refine sv (yExt rfl rfl) ?_
  refine salloc hS Tryz.zeroValue44 rfl ?_; clear hS; intro b7 w hS
  refine sst hS rfl rfl Tryz.sizeOf44 rfl rfl rfl rfl ?_; clear hS; intro w hS
  refine sv (yAsg rfl) ?_
  refine nil ?_
  show Code.wp _ _ _ _ _
  refine seq ?_
  refine seq ?_
  refine region ?_
  refine sv (yMove rfl) ?_
  refine sv (yEql rfl rfl) ?_
  refine nil ?_
  show Code.wp _ _ _ _ _
  refine cond rfl (fun c16 => ?_) (fun c16 => ?_)
  ·
    simp only [Bool.and_eq_true, Bool.or_eq_true, Bool.and_eq_false_iff, Bool.or_eq_false_iff, decide_eq_true_eq, decide_eq_false_iff_not, Bool.not_eq_true, Bool.not_eq_false, Bool.not_not, Bool.not_eq_eq_eq_not, Bool.not_true, Bool.not_false, Bool.false_eq_true, Bool.true_eq_false, ne_eq, Decidable.not_not, not_false_eq_true, not_true_eq_false] at c16
    refine seq ?_
    refine region ?_
    refine sv (yAsg rfl) ?_
    refine nil ?_
    show Code.wp _ _ _ _ _
    refine wp_ret (thenR ?_)
    exact retV (res1 rfl (eqI (by unfold stageF; rw [if_pos c16]))) hS.ext
  ·
    simp only [Bool.and_eq_true, Bool.or_eq_true, Bool.and_eq_false_iff, Bool.or_eq_false_iff, decide_eq_true_eq, decide_eq_false_iff_not, Bool.not_eq_true, Bool.not_eq_false, Bool.not_not, Bool.not_eq_eq_eq_not, Bool.not_true, Bool.not_false, Bool.false_eq_true, Bool.true_eq_false, ne_eq, Decidable.not_not, not_false_eq_true, not_true_eq_false] at c16
    have hab := arr_bd hok hi
    refine skip ?_
    show Code.wp _ _ _ _ _
    refine seq ?_
    refine seq ?_
    refine region_draw mixed (by kernel_rfl) hS ?_
    refine qv (fun w hS => (yMove rfl)) ?_
    refine qv (fun w hS => (fa26_3 rfl)) ?_
    refine qv (fun w hS => (yLdB rfl Tryz.isAgg24 (hS.at _) rfl)) ?_
    refine qv (fun w hS => (yLen rfl Tryz.underlying24)) ?_
    refine qv (fun w hS => (yEql rfl rfl)) ?_
    refine qv (fun w hS => (yMove rfl)) ?_
    refine qg rfl rfl rfl (fun g w hS => (fa44_0 rfl)) (fun v23 g23 => ?_)
    refine qg rfl rfl rfl (fun g w hS => (yLdB (g23.1 g) Tryz.isAgg3 (hS.at _) rfl)) (fun v24 g24 => ?_)
    refine qg rfl rfl rfl (fun g w hS => (fa26_2 rfl)) (fun v25 g25 => ?_)
    refine qg rfl rfl rfl (fun g w hS => (yLdB (g25.1 g) Tryz.isAgg23 (hS.at _) rfl)) (fun v26 g26 => ?_)
    refine qg rfl rfl rfl (fun g w hS => (yMove rfl)) (fun v27 g27 => ?_)
    refine qg rfl rfl rfl (fun g w hS => (yIxa (g26.1 g) hat (g27.1 g) Tryz.runUnderlying23 Tryz.sizeOf36 (by omega) (by omega))) (fun v28 g28 => ?_)
    refine qg rfl rfl rfl (fun g w hS => (fa36_3 (g28.1 g))) (fun v29 g29 => ?_)
    refine qg rfl rfl rfl (fun g w hS => (yLd (g29.1 g) Tryz.isAgg3 ((hcst.ext hS.ext).at (j := 3) rfl))) (fun v30 g30 => ?_)
    refine qg rfl rfl rfl (fun g w hS => (ySub (g24.1 g) (g30.1 g) ⟨by omega, by omega⟩)) (fun v31 g31 => ?_)
    refine qg rfl rfl rfl (fun g w hS => (yMove rfl)) (fun v32 g32 => ?_)
    refine qg rfl rfl rfl (fun g w hS => (yLeq (g31.1 g) (g32.1 g))) (fun v33 g33 => ?_)
    refine qv (fun w hS => (yOr rfl rfl (fun hB => (g33.1 hB)))) ?_
    clear hS; refine qnil (fun w hS => ?_)
    show Code.wp _ _ _ _ _
    refine cond rfl (fun c34 => ?_) (fun c34 => ?_)
    ·
      refine seq ?_
      refine region ?_
      refine sv (yAsg rfl) ?_
      refine nil ?_
      show Code.wp _ _ _ _ _
      refine wp_ret (thenR ?_)
      exact retV (res1 rfl (eqI (stage_2 c16 c34))) hS.ext
    ·
      refine skip ?_
      show Code.wp _ _ _ _ _
      refine seq ?_
      refine region ?_
      refine sv (yAsg rfl) ?_
      refine nil ?_
      show Code.wp _ _ _ _ _
      refine wp_ret ?_
      exact retV (res1 rfl (eqI (stage_1 c16 c34))) hS.ext
set_option maxHeartbeats 1000000 in
/-- barrage/barrageref11.Stage -/
theorem c_rStage {t : Task} {hv nv fv : Value} {i now : Int} {w0 : World} (h : RTask w0 [.int .i64 t.polders, hv, nv, fv] t) : CV Tryz.prog 26 #[.agg [.int .i64 t.polders, hv, nv, fv].toArray, .int .i64 i, .int .i64 now] w0 (.tuple #[.int .i64 (stageR t i now).1, .int .i64 (stageR t i now).2]) := by
  obtain ⟨hv', nv', fv', he0, hpol, hsh, hsn, hsf⟩ := id h
  obtain ⟨rfl, rfl, rfl⟩ : hv' = hv ∧ nv' = nv ∧ fv' = fv := by simpa [eq_comm] using he0
  obtain ⟨a1, cap1, rfl, hcap1, hmx1, hel1⟩ := id hsh
  obtain ⟨a2, cap2, rfl, hcap2, hmx2, hel2⟩ := id hsn
  obtain ⟨a3, cap3, rfl, hcap3, hmx3, hel3⟩ := id hsf
  refine enter Tryz.func26 rfl Tryz.ntmps26 rfl ?_
  have hS := St.start w0
  refine seq ?_
  refine region ?_
  refine sbox hS rfl rfl ?_; clear hS; intro b3 w hS
  refine sv (yAsg rfl) ?_
  refine sv (yAsg rfl) ?_
  refine nil ?_
  show Code.wp _ _ _ _ _
  refine seq ?_
  refine region ?_
  refine sv (yLdBA rfl Tryz.isAgg26 Tryz.sizeOf26 (hS.at _) rfl rfl) ?_
  refine sv (yMove rfl) ?_
  refine scall Tryz.call70 (.cons rfl (.cons rfl .nil)) (c_rasked (h.ext hS.ext)) ?_
  rintro _ w ⟨rfl, hE⟩; replace hS := hS.step hE; clear hE
  refine sv (yAsg rfl) ?_
  refine nil ?_
  show Code.wp _ _ _ _ _
  refine seq ?_
  refine seq ?_
  refine region ?_
  refine sv (yMove rfl) ?_
  refine sv (yEql rfl rfl) ?_
  refine sv (yMove rfl) ?_
  refine sg rfl rfl rfl (fun g => (yMove rfl)) (fun v15 g15 => ?_)
  refine sgc hS rfl rfl rfl Tryz.call73 (fun g => (.cons (g15.1 g) .nil)) (fun g => c_rtick) ?_; clear hS; intro v16 w hS g16
  refine sg rfl rfl rfl (fun g => (yNot (g16.1 g))) (fun v17 g17 => ?_)
  refine sv (yAnd rfl (fun hB => (g17.1 hB)) rfl) ?_
  refine nil ?_
  show Code.wp _ _ _ _ _
  refine cond rfl (fun c18 => ?_) (fun c18 => ?_)
  ·
    refine region ?_
    refine sv (yAsg rfl) ?_
    refine nil ?_
    show Code.wp _ _ _ _ _
    refine seq ?_
    refine seq ?_
    refine region ?_
    refine sv (yMove rfl) ?_
    refine sv (yNeq rfl rfl) ?_
    refine nil ?_
    show Code.wp _ _ _ _ _
    refine cond rfl (fun c20 => ?_) (fun c20 => ?_)
    ·
      refine seq ?_
      refine region ?_
      refine sv (yMove rfl) ?_
      refine sv (yAsg rfl) ?_
      refine sv (yAsg rfl) ?_
      refine nil ?_
      show Code.wp _ _ _ _ _
      have hf := stageR_7 c18
      refine wp_ret (thenR ?_)
      exact retV (res2 rfl (fstI hf) (sndI hf)) hS.ext
    ·
      exact absurd c20 (by decide)
  ·
    refine skip ?_
    show Code.wp _ _ _ _ _
    refine seq ?_
    refine seq ?_
    refine region ?_
    refine sv (yMove rfl) ?_
    refine sv (yNeq rfl rfl) ?_
    refine nil ?_
    show Code.wp _ _ _ _ _
    refine cond rfl (fun c20 => ?_) (fun c20 => ?_)
    ·
      simp only [Bool.and_eq_true, Bool.or_eq_true, Bool.and_eq_false_iff, Bool.or_eq_false_iff, decide_eq_true_eq, decide_eq_false_iff_not, Bool.not_eq_true, Bool.not_eq_false, Bool.not_not, Bool.not_eq_eq_eq_not, Bool.not_true, Bool.not_false, Bool.false_eq_true, Bool.true_eq_false, ne_eq, Decidable.not_not, not_false_eq_true, not_true_eq_false] at c20
      refine seq ?_
      refine region ?_
      refine sv (yMove rfl) ?_
      refine sv (yAsg rfl) ?_
      refine sv (yAsg rfl) ?_
      refine nil ?_
      show Code.wp _ _ _ _ _
      have hf : stageR t i now = (0, ofE t i) := by unfold stageR; rw [if_pos c20]
      refine wp_ret (thenR ?_)
      exact retV (res2 rfl (fstI hf) (sndI hf)) hS.ext
    ·
      simp only [Bool.and_eq_true, Bool.or_eq_true, Bool.and_eq_false_iff, Bool.or_eq_false_iff, decide_eq_true_eq, decide_eq_false_iff_not, Bool.not_eq_true, Bool.not_eq_false, Bool.not_not, Bool.not_eq_eq_eq_not, Bool.not_true, Bool.not_false, Bool.false_eq_true, Bool.true_eq_false, ne_eq, Decidable.not_not, not_false_eq_true, not_true_eq_false] at c20
      obtain ⟨hok, hi⟩ := ofE_ok c20
      refine skip ?_
      show Code.wp _ _ _ _ _
      refine seq ?_
      refine region ?_
      refine sv (yLdBA rfl Tryz.isAgg26 Tryz.sizeOf26 (hS.at _) rfl rfl) ?_
      refine sv (yMove rfl) ?_
      refine sv (yMove rfl) ?_
      refine scall Tryz.call74 (.cons rfl (.cons rfl (.cons rfl .nil))) (c_rstage (h.ext hS.ext) hok hi) ?_
      rintro _ w ⟨rfl, hE⟩; replace hS := hS.step hE; clear hE
      refine sv (yAsg rfl) ?_
      refine sv (yAsg rfl) ?_
      refine nil ?_
      show Code.wp _ _ _ _ _
      have hf := stageR_0 c18 c20
      refine wp_ret ?_
      exact retV (res2 rfl (fstI hf) (sndI hf)) hS.ext
end Go.Proofs.YtmoilbakmlekbaaGreatDoor
/- part Aw31 -/
namespace Go.Proofs.YtmoilbakmlekbaaGreatDoor
open Go Bx
set_option maxHeartbeats 2000000 in
/-- barrage/barragelaw11.AlarmChecks -/
theorem w_AlarmChecks {t : Task} {cs : List Value} {i now : Int} {w0 : World} (hg : Glb w0) (h : RTask w0 cs t) (_ : I64 i) (_ : I64 now) : CV Tryz.prog 4 #[.agg cs.toArray, .int .i64 i, .int .i64 now] w0 (.bool true) := by
  obtain ⟨hv, nv, fv, rfl, hpol, hsh, hsn, hsf⟩ := id h
  obtain ⟨a1, cap1, rfl, hcap1, hmx1, hel1⟩ := id hsh
  obtain ⟨a2, cap2, rfl, hcap2, hmx2, hel2⟩ := id hsn
  obtain ⟨a3, cap3, rfl, hcap3, hmx3, hel3⟩ := id hsf
  refine enter Tryz.func4 rfl Tryz.ntmps4 rfl ?_
  have hS := St.start w0
  refine seq ?_
  refine region ?_
  refine sbox hS rfl rfl ?_; clear hS; intro b3 w hS
  refine sv (yAsg rfl) ?_
  refine nil ?_
  show Code.wp _ _ _ _ _
  refine seq ?_
  refine region ?_
  refine sv (yLdBA rfl Tryz.isAgg26 Tryz.sizeOf26 (hS.at _) rfl rfl) ?_
  refine scall Tryz.call19 (.cons rfl .nil) (c_CheckA (hg.ext hS.ext) (h.ext hS.ext)) ?_
  rintro _ w ⟨rfl, hE⟩; replace hS := hS.step hE; clear hE
  refine sv (yMove rfl) ?_
  refine sv (yExt rfl rfl) ?_
  refine sv (yExt rfl rfl) ?_
  refine sv (yExt rfl rfl) ?_
  refine sv (yAsg rfl) ?_
  refine sv (yAsg rfl) ?_
  refine sv (yAsg rfl) ?_
  refine nil ?_
  show Code.wp _ _ _ _ _
  refine seq ?_
  refine region ?_
  refine sv (yLdBA rfl Tryz.isAgg26 Tryz.sizeOf26 (hS.at _) rfl rfl) ?_
  refine scall Tryz.call22 (.cons rfl .nil) (c_rCheck (h.ext hS.ext)) ?_
  rintro _ w ⟨rfl, hE⟩; replace hS := hS.step hE; clear hE
  refine sv (yMove rfl) ?_
  refine sv (yExt rfl rfl) ?_
  refine sv (yExt rfl rfl) ?_
  refine sv (yExt rfl rfl) ?_
  refine sv (yAsg rfl) ?_
  refine sv (yAsg rfl) ?_
  refine sv (yAsg rfl) ?_
  refine nil ?_
  show Code.wp _ _ _ _ _
  refine seq ?_
  refine seq ?_
  refine region ?_
  refine sv (yMove rfl) ?_
  refine sv (yMove rfl) ?_
  refine sv (yNeq rfl rfl) ?_
  refine sv (yMove rfl) ?_
  refine sg rfl rfl rfl (fun g => (yMove rfl)) (fun v33 g33 => ?_)
  refine sg rfl rfl rfl (fun g => (yMove rfl)) (fun v34 g34 => ?_)
  refine sg rfl rfl rfl (fun g => (yNeq (g33.1 g) (g34.1 g))) (fun v35 g35 => ?_)
  refine sv (yOr rfl rfl (fun hB => (g35.1 hB))) ?_
  refine sv (yMove rfl) ?_
  refine sg rfl rfl rfl (fun g => (yMove rfl)) (fun v38 g38 => ?_)
  refine sg rfl rfl rfl (fun g => (yMove rfl)) (fun v39 g39 => ?_)
  refine sg rfl rfl rfl (fun g => (yNeq (g38.1 g) (g39.1 g))) (fun v40 g40 => ?_)
  refine sv (yOr rfl rfl (fun hB => (g40.1 hB))) ?_
  refine nil ?_
  show Code.wp _ _ _ _ _
  refine cond rfl (fun c41 => ?_) (fun c41 => ?_)
  ·
    exact absurd c41 (by simp)
  ·
    refine skip ?_
    show Code.wp _ _ _ _ _
    refine seq ?_
    refine region ?_
    refine sv (yLdBA rfl Tryz.isAgg26 Tryz.sizeOf26 (hS.at _) rfl rfl) ?_
    refine sv (yMove rfl) ?_
    refine scall Tryz.call23 (.cons rfl (.cons rfl .nil)) (c_Arrival (hg.ext hS.ext) (h.ext hS.ext)) ?_
    rintro _ w ⟨rfl, hE⟩; replace hS := hS.step hE; clear hE
    refine sv (yMove rfl) ?_
    refine sv (yExt rfl rfl) ?_
    refine sv (yExt rfl rfl) ?_
    refine sv (yExt rfl rfl) ?_
    refine salloc hS Tryz.zeroValue44 rfl ?_; clear hS; intro b13 w hS
    refine sst hS rfl rfl Tryz.sizeOf44 rfl rfl rfl rfl ?_; clear hS; intro w hS
    refine sv (yAsg rfl) ?_
    refine sv (yAsg rfl) ?_
    refine nil ?_
    show Code.wp _ _ _ _ _
    refine seq ?_
    refine region ?_
    refine sv (yLdBA rfl Tryz.isAgg26 Tryz.sizeOf26 (hS.at _) rfl rfl) ?_
    refine sv (yMove rfl) ?_
    refine scall Tryz.call24 (.cons rfl (.cons rfl .nil)) (c_rArrival (h.ext hS.ext)) ?_
    rintro _ w ⟨rfl, hE⟩; replace hS := hS.step hE; clear hE
    refine sv (yMove rfl) ?_
    refine sv (yExt rfl rfl) ?_
    refine sv (yExt rfl rfl) ?_
    refine sv (yExt rfl rfl) ?_
    refine salloc hS Tryz.zeroValue44 rfl ?_; clear hS; intro b15 w hS
    refine sst hS rfl rfl Tryz.sizeOf44 rfl rfl rfl rfl ?_; clear hS; intro w hS
    refine sv (yAsg rfl) ?_
    refine sv (yAsg rfl) ?_
    refine nil ?_
    show Code.wp _ _ _ _ _
    refine seq ?_
    refine seq ?_
    refine region ?_
    refine sv (yLdBA rfl Tryz.isAgg44 Tryz.sizeOf44 (hS.at _) rfl rfl) ?_
    refine sv (yLdBA rfl Tryz.isAgg44 Tryz.sizeOf44 (hS.at _) rfl rfl) ?_
    refine sv (neS44 rfl rfl) ?_
    refine sv (yMove rfl) ?_
    refine sg rfl rfl rfl (fun g => (yMove rfl)) (fun v60 g60 => ?_)
    refine sg rfl rfl rfl (fun g => (yMove rfl)) (fun v61 g61 => ?_)
    refine sg rfl rfl rfl (fun g => (yNeq (g60.1 g) (g61.1 g))) (fun v62 g62 => ?_)
    refine sv (yOr rfl rfl (fun hB => (g62.1 hB))) ?_
    refine sv (yMove rfl) ?_
    refine sg rfl rfl rfl (fun g => (yMove rfl)) (fun v65 g65 => ?_)
    refine sg rfl rfl rfl (fun g => (yMove rfl)) (fun v66 g66 => ?_)
    refine sg rfl rfl rfl (fun g => (yNeq (g65.1 g) (g66.1 g))) (fun v67 g67 => ?_)
    refine sv (yOr rfl rfl (fun hB => (g67.1 hB))) ?_
    refine nil ?_
    show Code.wp _ _ _ _ _
    refine cond rfl (fun c68 => ?_) (fun c68 => ?_)
    ·
      exact absurd c68 (by simp)
    ·
      refine skip ?_
      show Code.wp _ _ _ _ _
      refine seq ?_
      refine region ?_
      refine sv (yLdBA rfl Tryz.isAgg26 Tryz.sizeOf26 (hS.at _) rfl rfl) ?_
      refine sv (yMove rfl) ?_
      refine sv (yMove rfl) ?_
      refine scall Tryz.call25 (.cons rfl (.cons rfl (.cons rfl .nil))) (c_Stage (hg.ext hS.ext) (h.ext hS.ext)) ?_
      rintro _ w ⟨rfl, hE⟩; replace hS := hS.step hE; clear hE
      refine sv (yMove rfl) ?_
      refine sv (yExt rfl rfl) ?_
      refine sv (yExt rfl rfl) ?_
      refine sv (yAsg rfl) ?_
      refine sv (yAsg rfl) ?_
      refine nil ?_
      show Code.wp _ _ _ _ _
      refine seq ?_
      refine region ?_
      refine sv (yLdBA rfl Tryz.isAgg26 Tryz.sizeOf26 (hS.at _) rfl rfl) ?_
      refine sv (yMove rfl) ?_
      refine sv (yMove rfl) ?_
      refine scall Tryz.call26 (.cons rfl (.cons rfl (.cons rfl .nil))) (c_rStage (h.ext hS.ext)) ?_
      rintro _ w ⟨rfl, hE⟩; replace hS := hS.step hE; clear hE
      refine sv (yMove rfl) ?_
      refine sv (yExt rfl rfl) ?_
      refine sv (yExt rfl rfl) ?_
      refine sv (yAsg rfl) ?_
      refine sv (yAsg rfl) ?_
      refine nil ?_
      show Code.wp _ _ _ _ _
      refine seq ?_
      refine region ?_
      refine sv (yMove rfl) ?_
      refine sv (yMove rfl) ?_
      refine sv (yEql rfl rfl) ?_
      refine sv (yMove rfl) ?_
      refine sg rfl rfl rfl (fun g => (yMove rfl)) (fun v87 g87 => ?_)
      refine sg rfl rfl rfl (fun g => (yMove rfl)) (fun v88 g88 => ?_)
      refine sg rfl rfl rfl (fun g => (yEql (g87.1 g) (g88.1 g))) (fun v89 g89 => ?_)
      refine sv (yAnd rfl (fun hB => (g89.1 hB)) rfl) ?_
      refine sv (yMove rfl) ?_
      refine sgc hS rfl rfl rfl Tryz.call20 (fun g => .nil) (fun g => (c_Awake (hg.ext hS.ext))) ?_; clear hS; intro v92 w hS g92
      refine sv (yAnd rfl (fun hB => (g92.1 hB)) rfl) ?_
      refine sv (yAsg rfl) ?_
      refine nil ?_
      show Code.wp _ _ _ _ _
      refine wp_ret ?_
      exact retV (res1 rfl (eqB (by simp))) hS.ext
end Go.Proofs.YtmoilbakmlekbaaGreatDoor
/- part RdF -/
namespace Go.Proofs.YtmoilbakmlekbaaGreatDoor
open Go Bx
section
variable {H : Type} {enc : TypeId × Value → H} {w : World} {base : Nat} {spare : Nat → Bool} {held : Bool} {fuel : Nat} {cs : List Value} {x : DataW H × List MemPlace}
theorem rdF26 (h : DataW.trod enc Tryz.prog w base spare held fuel 26 cs = some x) (hW : WOk Tryz.prog 26 x.1) : ∃ n c0 c1 c2 c3, cs = [c0, c1, c2, c3] ∧ (∃ y, DataW.trod enc Tryz.prog w base spare held n 3 [c0] = some y ∧ WOk Tryz.prog 3 y.1) ∧ (∃ y, DataW.trod enc Tryz.prog w base spare held n 22 [c1] = some y ∧ WOk Tryz.prog 22 y.1) ∧ (∃ y, DataW.trod enc Tryz.prog w base spare held n 23 [c2] = some y ∧ WOk Tryz.prog 23 y.1) ∧ (∃ y, DataW.trod enc Tryz.prog w base spare held n 24 [c3] = some y ∧ WOk Tryz.prog 24 y.1) := by
  have z3 : Tryz.prog.cellsOf 3 = 1 := by kernel_rfl
  have z22 : Tryz.prog.cellsOf 22 = 1 := by kernel_rfl
  have z23 : Tryz.prog.cellsOf 23 = 1 := by kernel_rfl
  have z24 : Tryz.prog.cellsOf 24 = 1 := by kernel_rfl
  obtain ⟨hl, n, hf⟩ := rdw_fields Tryz.underlying26 h hW
  have hz : Tryz.prog.cellsOf 26 = 4 := by kernel_rfl
  rw [hz] at hl
  obtain ⟨c0, c1, c2, c3, rfl⟩ := four_of hl
  have f0 : ∃ y, DataW.trod enc Tryz.prog w base spare held n 3 ((List.drop 0 [c0, c1, c2, c3]).take (Tryz.prog.cellsOf 3)) = some y ∧ WOk Tryz.prog 3 y.1 := hf 0 _ rfl
  rw [z3] at f0
  have f1 : ∃ y, DataW.trod enc Tryz.prog w base spare held n 22 ((List.drop 1 [c0, c1, c2, c3]).take (Tryz.prog.cellsOf 22)) = some y ∧ WOk Tryz.prog 22 y.1 := hf 1 _ rfl
  rw [z22] at f1
  have f2 : ∃ y, DataW.trod enc Tryz.prog w base spare held n 23 ((List.drop 2 [c0, c1, c2, c3]).take (Tryz.prog.cellsOf 23)) = some y ∧ WOk Tryz.prog 23 y.1 := hf 2 _ rfl
  rw [z23] at f2
  have f3 : ∃ y, DataW.trod enc Tryz.prog w base spare held n 24 ((List.drop 3 [c0, c1, c2, c3]).take (Tryz.prog.cellsOf 24)) = some y ∧ WOk Tryz.prog 24 y.1 := hf 3 _ rfl
  rw [z24] at f3
  exact ⟨n, c0, c1, c2, c3, rfl, f0, f1, f2, f3⟩
theorem rdF36 (h : DataW.trod enc Tryz.prog w base spare held fuel 36 cs = some x) (hW : WOk Tryz.prog 36 x.1) : ∃ n c0 c1 c2 c3 c4, cs = [c0, c1, c2, c3, c4] ∧ (∃ y, DataW.trod enc Tryz.prog w base spare held n 9 [c0] = some y ∧ WOk Tryz.prog 9 y.1) ∧ (∃ y, DataW.trod enc Tryz.prog w base spare held n 3 [c1] = some y ∧ WOk Tryz.prog 3 y.1) ∧ (∃ y, DataW.trod enc Tryz.prog w base spare held n 3 [c2] = some y ∧ WOk Tryz.prog 3 y.1) ∧ (∃ y, DataW.trod enc Tryz.prog w base spare held n 3 [c3] = some y ∧ WOk Tryz.prog 3 y.1) ∧ (∃ y, DataW.trod enc Tryz.prog w base spare held n 34 [c4] = some y ∧ WOk Tryz.prog 34 y.1) := by
  have z3 : Tryz.prog.cellsOf 3 = 1 := by kernel_rfl
  have z9 : Tryz.prog.cellsOf 9 = 1 := by kernel_rfl
  have z34 : Tryz.prog.cellsOf 34 = 1 := by kernel_rfl
  obtain ⟨hl, n, hf⟩ := rdw_fields Tryz.underlying36 h hW
  have hz : Tryz.prog.cellsOf 36 = 5 := by kernel_rfl
  rw [hz] at hl
  obtain ⟨c0, c1, c2, c3, c4, rfl⟩ := five_of hl
  have f0 : ∃ y, DataW.trod enc Tryz.prog w base spare held n 9 ((List.drop 0 [c0, c1, c2, c3, c4]).take (Tryz.prog.cellsOf 9)) = some y ∧ WOk Tryz.prog 9 y.1 := hf 0 _ rfl
  rw [z9] at f0
  have f1 : ∃ y, DataW.trod enc Tryz.prog w base spare held n 3 ((List.drop 1 [c0, c1, c2, c3, c4]).take (Tryz.prog.cellsOf 3)) = some y ∧ WOk Tryz.prog 3 y.1 := hf 1 _ rfl
  rw [z3] at f1
  have f2 : ∃ y, DataW.trod enc Tryz.prog w base spare held n 3 ((List.drop 2 [c0, c1, c2, c3, c4]).take (Tryz.prog.cellsOf 3)) = some y ∧ WOk Tryz.prog 3 y.1 := hf 2 _ rfl
  rw [z3] at f2
  have f3 : ∃ y, DataW.trod enc Tryz.prog w base spare held n 3 ((List.drop 3 [c0, c1, c2, c3, c4]).take (Tryz.prog.cellsOf 3)) = some y ∧ WOk Tryz.prog 3 y.1 := hf 3 _ rfl
  rw [z3] at f3
  have f4 : ∃ y, DataW.trod enc Tryz.prog w base spare held n 34 ((List.drop 4 [c0, c1, c2, c3, c4]).take (Tryz.prog.cellsOf 34)) = some y ∧ WOk Tryz.prog 34 y.1 := hf 4 _ rfl
  rw [z34] at f4
  exact ⟨n, c0, c1, c2, c3, c4, rfl, f0, f1, f2, f3, f4⟩
theorem rdF41 (h : DataW.trod enc Tryz.prog w base spare held fuel 41 cs = some x) (hW : WOk Tryz.prog 41 x.1) : ∃ n c0 c1 c2, cs = [c0, c1, c2] ∧ (∃ y, DataW.trod enc Tryz.prog w base spare held n 9 [c0] = some y ∧ WOk Tryz.prog 9 y.1) ∧ (∃ y, DataW.trod enc Tryz.prog w base spare held n 3 [c1] = some y ∧ WOk Tryz.prog 3 y.1) ∧ (∃ y, DataW.trod enc Tryz.prog w base spare held n 3 [c2] = some y ∧ WOk Tryz.prog 3 y.1) := by
  have z3 : Tryz.prog.cellsOf 3 = 1 := by kernel_rfl
  have z9 : Tryz.prog.cellsOf 9 = 1 := by kernel_rfl
  obtain ⟨hl, n, hf⟩ := rdw_fields Tryz.underlying41 h hW
  have hz : Tryz.prog.cellsOf 41 = 3 := by kernel_rfl
  rw [hz] at hl
  obtain ⟨c0, c1, c2, rfl⟩ := three_of hl
  have f0 : ∃ y, DataW.trod enc Tryz.prog w base spare held n 9 ((List.drop 0 [c0, c1, c2]).take (Tryz.prog.cellsOf 9)) = some y ∧ WOk Tryz.prog 9 y.1 := hf 0 _ rfl
  rw [z9] at f0
  have f1 : ∃ y, DataW.trod enc Tryz.prog w base spare held n 3 ((List.drop 1 [c0, c1, c2]).take (Tryz.prog.cellsOf 3)) = some y ∧ WOk Tryz.prog 3 y.1 := hf 1 _ rfl
  rw [z3] at f1
  have f2 : ∃ y, DataW.trod enc Tryz.prog w base spare held n 3 ((List.drop 2 [c0, c1, c2]).take (Tryz.prog.cellsOf 3)) = some y ∧ WOk Tryz.prog 3 y.1 := hf 2 _ rfl
  rw [z3] at f2
  exact ⟨n, c0, c1, c2, rfl, f0, f1, f2⟩
theorem rdF54 (h : DataW.trod enc Tryz.prog w base spare held fuel 54 cs = some x) (hW : WOk Tryz.prog 54 x.1) : ∃ n c0 c1 c2 c3, cs = [c0, c1, c2, c3] ∧ (∃ y, DataW.trod enc Tryz.prog w base spare held n 5 [c0] = some y ∧ WOk Tryz.prog 5 y.1) ∧ (∃ y, DataW.trod enc Tryz.prog w base spare held n 5 [c1] = some y ∧ WOk Tryz.prog 5 y.1) ∧ (∃ y, DataW.trod enc Tryz.prog w base spare held n 5 [c2] = some y ∧ WOk Tryz.prog 5 y.1) ∧ (∃ y, DataW.trod enc Tryz.prog w base spare held n 52 [c3] = some y ∧ WOk Tryz.prog 52 y.1) := by
  have z5 : Tryz.prog.cellsOf 5 = 1 := by kernel_rfl
  have z52 : Tryz.prog.cellsOf 52 = 1 := by kernel_rfl
  obtain ⟨hl, n, hf⟩ := rdw_fields Tryz.underlying54 h hW
  have hz : Tryz.prog.cellsOf 54 = 4 := by kernel_rfl
  rw [hz] at hl
  obtain ⟨c0, c1, c2, c3, rfl⟩ := four_of hl
  have f0 : ∃ y, DataW.trod enc Tryz.prog w base spare held n 5 ((List.drop 0 [c0, c1, c2, c3]).take (Tryz.prog.cellsOf 5)) = some y ∧ WOk Tryz.prog 5 y.1 := hf 0 _ rfl
  rw [z5] at f0
  have f1 : ∃ y, DataW.trod enc Tryz.prog w base spare held n 5 ((List.drop 1 [c0, c1, c2, c3]).take (Tryz.prog.cellsOf 5)) = some y ∧ WOk Tryz.prog 5 y.1 := hf 1 _ rfl
  rw [z5] at f1
  have f2 : ∃ y, DataW.trod enc Tryz.prog w base spare held n 5 ((List.drop 2 [c0, c1, c2, c3]).take (Tryz.prog.cellsOf 5)) = some y ∧ WOk Tryz.prog 5 y.1 := hf 2 _ rfl
  rw [z5] at f2
  have f3 : ∃ y, DataW.trod enc Tryz.prog w base spare held n 52 ((List.drop 3 [c0, c1, c2, c3]).take (Tryz.prog.cellsOf 52)) = some y ∧ WOk Tryz.prog 52 y.1 := hf 3 _ rfl
  rw [z52] at f3
  exact ⟨n, c0, c1, c2, c3, rfl, f0, f1, f2, f3⟩
theorem rdF57 (h : DataW.trod enc Tryz.prog w base spare held fuel 57 cs = some x) : ∃ n c0 c1, cs = [c0, c1] ∧ (∃ y, DataW.trod enc Tryz.prog w base spare held n 56 [c0] = some y) ∧ (∃ y, DataW.trod enc Tryz.prog w base spare held n 56 [c1] = some y) := by
  have z56 : Tryz.prog.cellsOf 56 = 1 := by kernel_rfl
  obtain ⟨hl, n, hf⟩ := rd_elems Tryz.underlying57 z56 h
  have hz : Tryz.prog.cellsOf 57 = 2 := by kernel_rfl
  rw [hz] at hl
  obtain ⟨c0, c1, rfl⟩ := two_of hl
  have f0 : ∃ y, DataW.trod enc Tryz.prog w base spare held n 56 [c0] = some y := hf 0 (by omega)
  have f1 : ∃ y, DataW.trod enc Tryz.prog w base spare held n 56 [c1] = some y := hf 1 (by omega)
  exact ⟨n, c0, c1, rfl, f0, f1⟩
theorem rdF63 (h : DataW.trod enc Tryz.prog w base spare held fuel 63 cs = some x) : ∃ n c0 c1, cs = [c0, c1] ∧ (∃ y, DataW.trod enc Tryz.prog w base spare held n 3 [c0] = some y) ∧ (∃ y, DataW.trod enc Tryz.prog w base spare held n 3 [c1] = some y) := by
  have z3 : Tryz.prog.cellsOf 3 = 1 := by kernel_rfl
  obtain ⟨hl, n, hf⟩ := rd_elems Tryz.underlying63 z3 h
  have hz : Tryz.prog.cellsOf 63 = 2 := by kernel_rfl
  rw [hz] at hl
  obtain ⟨c0, c1, rfl⟩ := two_of hl
  have f0 : ∃ y, DataW.trod enc Tryz.prog w base spare held n 3 [c0] = some y := hf 0 (by omega)
  have f1 : ∃ y, DataW.trod enc Tryz.prog w base spare held n 3 [c1] = some y := hf 1 (by omega)
  exact ⟨n, c0, c1, rfl, f0, f1⟩
theorem rdF70 (h : DataW.trod enc Tryz.prog w base spare held fuel 70 cs = some x) (hW : WOk Tryz.prog 70 x.1) : ∃ n c0 c1 c2 c3 c4, cs = [c0, c1, c2, c3, c4] ∧ (∃ y, DataW.trod enc Tryz.prog w base spare held n 3 [c0] = some y ∧ WOk Tryz.prog 3 y.1) ∧ (∃ y, DataW.trod enc Tryz.prog w base spare held n 3 [c1] = some y ∧ WOk Tryz.prog 3 y.1) ∧ (∃ y, DataW.trod enc Tryz.prog w base spare held n 3 [c2] = some y ∧ WOk Tryz.prog 3 y.1) ∧ (∃ y, DataW.trod enc Tryz.prog w base spare held n 3 [c3] = some y ∧ WOk Tryz.prog 3 y.1) ∧ (∃ y, DataW.trod enc Tryz.prog w base spare held n 3 [c4] = some y ∧ WOk Tryz.prog 3 y.1) := by
  have z3 : Tryz.prog.cellsOf 3 = 1 := by kernel_rfl
  obtain ⟨hl, n, hf⟩ := rdw_fields Tryz.underlying70 h hW
  have hz : Tryz.prog.cellsOf 70 = 5 := by kernel_rfl
  rw [hz] at hl
  obtain ⟨c0, c1, c2, c3, c4, rfl⟩ := five_of hl
  have f0 : ∃ y, DataW.trod enc Tryz.prog w base spare held n 3 ((List.drop 0 [c0, c1, c2, c3, c4]).take (Tryz.prog.cellsOf 3)) = some y ∧ WOk Tryz.prog 3 y.1 := hf 0 _ rfl
  rw [z3] at f0
  have f1 : ∃ y, DataW.trod enc Tryz.prog w base spare held n 3 ((List.drop 1 [c0, c1, c2, c3, c4]).take (Tryz.prog.cellsOf 3)) = some y ∧ WOk Tryz.prog 3 y.1 := hf 1 _ rfl
  rw [z3] at f1
  have f2 : ∃ y, DataW.trod enc Tryz.prog w base spare held n 3 ((List.drop 2 [c0, c1, c2, c3, c4]).take (Tryz.prog.cellsOf 3)) = some y ∧ WOk Tryz.prog 3 y.1 := hf 2 _ rfl
  rw [z3] at f2
  have f3 : ∃ y, DataW.trod enc Tryz.prog w base spare held n 3 ((List.drop 3 [c0, c1, c2, c3, c4]).take (Tryz.prog.cellsOf 3)) = some y ∧ WOk Tryz.prog 3 y.1 := hf 3 _ rfl
  rw [z3] at f3
  have f4 : ∃ y, DataW.trod enc Tryz.prog w base spare held n 3 ((List.drop 4 [c0, c1, c2, c3, c4]).take (Tryz.prog.cellsOf 3)) = some y ∧ WOk Tryz.prog 3 y.1 := hf 4 _ rfl
  rw [z3] at f4
  exact ⟨n, c0, c1, c2, c3, c4, rfl, f0, f1, f2, f3, f4⟩
theorem rdF72 (h : DataW.trod enc Tryz.prog w base spare held fuel 72 cs = some x) : ∃ n c0 c1 c2, cs = [c0, c1, c2] ∧ (∃ y, DataW.trod enc Tryz.prog w base spare held n 3 [c0] = some y) ∧ (∃ y, DataW.trod enc Tryz.prog w base spare held n 3 [c1] = some y) ∧ (∃ y, DataW.trod enc Tryz.prog w base spare held n 3 [c2] = some y) := by
  have z3 : Tryz.prog.cellsOf 3 = 1 := by kernel_rfl
  obtain ⟨hl, n, hf⟩ := rd_elems Tryz.underlying72 z3 h
  have hz : Tryz.prog.cellsOf 72 = 3 := by kernel_rfl
  rw [hz] at hl
  obtain ⟨c0, c1, c2, rfl⟩ := three_of hl
  have f0 : ∃ y, DataW.trod enc Tryz.prog w base spare held n 3 [c0] = some y := hf 0 (by omega)
  have f1 : ∃ y, DataW.trod enc Tryz.prog w base spare held n 3 [c1] = some y := hf 1 (by omega)
  have f2 : ∃ y, DataW.trod enc Tryz.prog w base spare held n 3 [c2] = some y := hf 2 (by omega)
  exact ⟨n, c0, c1, c2, rfl, f0, f1, f2⟩
end
end Go.Proofs.YtmoilbakmlekbaaGreatDoor
/- part Rd1 -/
namespace Go.Proofs.YtmoilbakmlekbaaGreatDoor
open Go Bx
theorem rd_Ints : RdW Tryz.prog 34 (fun w cs (l : List Int) => ∃ v, cs = [v] ∧ Sl w 1 RInt v l ∧ l.length * 8 ≤ 140737488351232) := rdw_slice (Rd.w (rd_int Tryz.underlying3)) (by kernel_rfl) (by decide) Tryz.underlying34 (by kernel_rfl)
theorem rd_Row : RdW Tryz.prog 34 RRow := fun H enc w base spare held fuel cs x h hW => by obtain ⟨a, v, e, i, -⟩ := rd_Ints H enc w base spare held fuel cs x h hW; exact ⟨a, v, e, i⟩
theorem rd_Rows : RdW Tryz.prog 24 (fun w cs (l : List (List Int)) => ∃ v, cs = [v] ∧ Sl w 1 RRow v l ∧ l.length * 24 ≤ 140737488351232) := rdw_slice rd_Row (by kernel_rfl) (by decide) Tryz.underlying24 (by kernel_rfl)
theorem rd_Chan : RdW Tryz.prog 41 RChan := by
  intro H enc w base spare held fuel cs x h hW
  obtain ⟨n, c0, c1, c2, rfl, ⟨y0, f0, k0⟩, ⟨y1, f1, k1⟩, ⟨y2, f2, k2⟩⟩ := rdF41 h hW
  obtain ⟨a0, g0⟩ := (Rd.w (rd_str Tryz.underlying9)) _ _ _ _ _ _ _ _ _ f0 k0
  obtain ⟨a1, g1⟩ := (Rd.w (rd_int Tryz.underlying3)) _ _ _ _ _ _ _ _ _ f1 k1
  obtain ⟨a2, g2⟩ := (Rd.w (rd_int Tryz.underlying3)) _ _ _ _ _ _ _ _ _ f2 k2
  obtain ⟨e0, i0⟩ := g0; obtain ⟨e1, i1⟩ := g1; obtain ⟨e2, i2⟩ := g2; cases e0; cases e1; cases e2; exact ⟨⟨a0, a1, a2⟩, rfl, i0, i1, i2⟩
theorem rd_Chans : RdW Tryz.prog 22 (fun w cs (l : List Chan) => ∃ v, cs = [v] ∧ Sl w 3 RChan v l ∧ l.length * 32 ≤ 140737488351232) := rdw_slice rd_Chan (by kernel_rfl) (by decide) Tryz.underlying22 (by kernel_rfl)
theorem rd_Town : RdW Tryz.prog 36 RTown := by
  intro H enc w base spare held fuel cs x h hW
  obtain ⟨n, c0, c1, c2, c3, c4, rfl, ⟨y0, f0, k0⟩, ⟨y1, f1, k1⟩, ⟨y2, f2, k2⟩, ⟨y3, f3, k3⟩, ⟨y4, f4, k4⟩⟩ := rdF36 h hW
  obtain ⟨a0, g0⟩ := (Rd.w (rd_str Tryz.underlying9)) _ _ _ _ _ _ _ _ _ f0 k0
  obtain ⟨a1, g1⟩ := (Rd.w (rd_int Tryz.underlying3)) _ _ _ _ _ _ _ _ _ f1 k1
  obtain ⟨a2, g2⟩ := (Rd.w (rd_int Tryz.underlying3)) _ _ _ _ _ _ _ _ _ f2 k2
  obtain ⟨a3, g3⟩ := (Rd.w (rd_int Tryz.underlying3)) _ _ _ _ _ _ _ _ _ f3 k3
  obtain ⟨a4, g4⟩ := rd_Ints _ _ _ _ _ _ _ _ _ f4 k4
  obtain ⟨e0, i0⟩ := g0; obtain ⟨e1, i1⟩ := g1; obtain ⟨e2, i2⟩ := g2; obtain ⟨e3, i3⟩ := g3; obtain ⟨v4, e4, i4, r4⟩ := g4; cases e0; cases e1; cases e2; cases e3; cases e4; exact ⟨⟨a0, a1, a2, a3, a4⟩, _, rfl, i0, i1, i2, i3, i4, r4⟩
theorem rd_Towns : RdW Tryz.prog 23 (fun w cs (l : List Town) => ∃ v, cs = [v] ∧ Sl w 5 RTown v l ∧ l.length * 64 ≤ 140737488351232) := rdw_slice rd_Town (by kernel_rfl) (by decide) Tryz.underlying23 (by kernel_rfl)
theorem rd_Task : RdW Tryz.prog 26 RTask := by
  intro H enc w base spare held fuel cs x h hW
  obtain ⟨n, c0, c1, c2, c3, rfl, ⟨y0, f0, k0⟩, ⟨y1, f1, k1⟩, ⟨y2, f2, k2⟩, ⟨y3, f3, k3⟩⟩ := rdF26 h hW
  obtain ⟨a0, g0⟩ := (Rd.w (rd_int Tryz.underlying3)) _ _ _ _ _ _ _ _ _ f0 k0
  obtain ⟨a1, g1⟩ := rd_Chans _ _ _ _ _ _ _ _ _ f1 k1
  obtain ⟨a2, g2⟩ := rd_Towns _ _ _ _ _ _ _ _ _ f2 k2
  obtain ⟨a3, g3⟩ := rd_Rows _ _ _ _ _ _ _ _ _ f3 k3
  obtain ⟨e0, i0⟩ := g0; obtain ⟨v1, e1, i1, r1⟩ := g1; obtain ⟨v2, e2, i2, r2⟩ := g2; obtain ⟨v3, e3, i3, r3⟩ := g3; cases e0; cases e1; cases e2; cases e3; exact ⟨⟨a0, a1, a2, a3⟩, _, _, _, rfl, i0, i1, i2, i3⟩
theorem rd_Msg : RdW Tryz.prog 70 RMsg := by
  intro H enc w base spare held fuel cs x h hW
  obtain ⟨n, c0, c1, c2, c3, c4, rfl, ⟨y0, f0, k0⟩, ⟨y1, f1, k1⟩, ⟨y2, f2, k2⟩, ⟨y3, f3, k3⟩, ⟨y4, f4, k4⟩⟩ := rdF70 h hW
  obtain ⟨a0, g0⟩ := (Rd.w (rd_int Tryz.underlying3)) _ _ _ _ _ _ _ _ _ f0 k0
  obtain ⟨a1, g1⟩ := (Rd.w (rd_int Tryz.underlying3)) _ _ _ _ _ _ _ _ _ f1 k1
  obtain ⟨a2, g2⟩ := (Rd.w (rd_int Tryz.underlying3)) _ _ _ _ _ _ _ _ _ f2 k2
  obtain ⟨a3, g3⟩ := (Rd.w (rd_int Tryz.underlying3)) _ _ _ _ _ _ _ _ _ f3 k3
  obtain ⟨a4, g4⟩ := (Rd.w (rd_int Tryz.underlying3)) _ _ _ _ _ _ _ _ _ f4 k4
  obtain ⟨e0, i0⟩ := g0; obtain ⟨e1, i1⟩ := g1; obtain ⟨e2, i2⟩ := g2; obtain ⟨e3, i3⟩ := g3; obtain ⟨e4, i4⟩ := g4; cases e0; cases e1; cases e2; cases e3; cases e4; exact ⟨⟨a0, a1, a2, a3, a4⟩, rfl, i0, i1, i2, i3, i4⟩
theorem rd_Msgs : RdW Tryz.prog 62 (fun w cs (l : List Msg) => ∃ v, cs = [v] ∧ Sl w 5 RMsg v l ∧ l.length * 40 ≤ 140737488351232) := rdw_slice rd_Msg (by kernel_rfl) (by decide) Tryz.underlying62 (by kernel_rfl)
theorem rd_ThreeI : RdW Tryz.prog 72 RThreeI := by
  intro H enc w base spare held fuel cs x h hW
  obtain ⟨n, c0, c1, c2, rfl, ⟨y0, f0⟩, ⟨y1, f1⟩, ⟨y2, f2⟩⟩ := rdF72 h
  obtain ⟨a0, e0, i0⟩ := rd_int Tryz.underlying3 _ _ _ _ _ _ _ _ _ f0
  obtain ⟨a1, e1, i1⟩ := rd_int Tryz.underlying3 _ _ _ _ _ _ _ _ _ f1
  obtain ⟨a2, e2, i2⟩ := rd_int Tryz.underlying3 _ _ _ _ _ _ _ _ _ f2
  cases e0; cases e1; cases e2; exact ⟨(a0, a1, a2), rfl, i0, i1, i2⟩
theorem rd_TwoU : RdW Tryz.prog 57 RTwoU := by
  intro H enc w base spare held fuel cs x h hW
  obtain ⟨n, c0, c1, rfl, ⟨y0, f0⟩, ⟨y1, f1⟩⟩ := rdF57 h
  obtain ⟨a0, e0, i0⟩ := rd_u32 Tryz.underlying56 _ _ _ _ _ _ _ _ _ f0
  obtain ⟨a1, e1, i1⟩ := rd_u32 Tryz.underlying56 _ _ _ _ _ _ _ _ _ f1
  cases e0; cases e1; exact ⟨(a0, a1), rfl, i0, i1⟩
end Go.Proofs.YtmoilbakmlekbaaGreatDoor
/- part Laid -/
namespace Go.Proofs.YtmoilbakmlekbaaGreatDoor
open Go Bx Go.ChangeShapes Go.WideShapes Go.RowKit
theorem laidEt : Tryz.prog.globalNamed "errors.errorType" = some 0 := by kernel_rfl
theorem laidRt : (Tryz.prog.cutTypes.find? (·.1 == "internal/reflectlite.rtype")).map (·.2) = some 217 := by kernel_rfl
theorem laidOne : ((List.range 309).filter fun t => Tryz.prog.rowNamed t [101, 114, 114, 111, 114]) = [120] := by kernel_rfl
theorem laidSize : Tryz.prog.types.size = 309 := by kernel_rfl
theorem glb_of_laid {W : World} (h : laidMetH Tryz.prog [("errors.errorType", Rows.laid_errors_errorType)] W) : Glb W := by
  have h' : laidMet Tryz.prog [] W ∧ handlesMet Tryz.prog [("errors.errorType", Rows.laid_errors_errorType)] W := h
  obtain ⟨name, u, ty, e1, e2, e3, e4, e5⟩ := h'.2 _ (List.mem_singleton.2 rfl)
  have en : name = [101, 114, 114, 111, 114] := (Option.some.inj e1).symm
  subst en
  obtain rfl := Option.some.inj (laidRt.symm.trans e2)
  have hm : ty ∈ (List.range 309).filter fun t => Tryz.prog.rowNamed t [101, 114, 114, 111, 114] := List.mem_filter.2 ⟨List.mem_range.2 (by rw [← laidSize]; exact e3), e4⟩
  rw [laidOne] at hm
  obtain rfl := List.mem_singleton.1 hm
  have hh : typeHandle Tryz.prog 120 = .pointer (some ⟨1, 120, none⟩) := by kernel_rfl
  rw [hh] at e5
  simpa [Glb] using World.var?_cell laidEt e5 0
noncomputable def laidWorld (os : Os) : World :=
  let w0 := World.holding Tryz.prog os ⟨#[], #[], []⟩
  { w0 with heap := w0.heap.modify 0 fun
      | .cells _ t frozen => .cells #[.iface 217 (.agg #[.pointer (some ⟨1, 120, none⟩)])] t frozen
      | o => o }
theorem laidWorld_met (os : Os) (args : Array Value) : laidMetH Tryz.prog [("errors.errorType", Rows.laid_errors_errorType)] ((laidWorld os).forCall (fun _ _ => 0) ⟨#[], args, []⟩).memory :=
  laidMetH_of_parts (laidMet_nil _ _) (by kernel_rfl)
end Go.Proofs.YtmoilbakmlekbaaGreatDoor
