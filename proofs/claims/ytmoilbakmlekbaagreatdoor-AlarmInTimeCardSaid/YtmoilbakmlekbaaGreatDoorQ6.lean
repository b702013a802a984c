/- Merged texts, part 6. -/
import Derived.Test.YtmoilbakmlekbaaGreatDoorQ5
import Derived.Test.YtmoilbakmlekbaaGreatDoorProg
import Derived.Test.YtmoilbakmlekbaaGreatDoorRows
import Derived.ChangeSame
import Derived.ChangeVars
import Derived.JoinedOf
import Derived.RowKit
import Derived.RowKitTokens
import Derived.LaidLaws
import Derived.LaidHandle
import Derived.Stop.Joined
set_option linter.all false
/- part Aw24 -/
namespace Go.Proofs.YtmoilbakmlekbaaGreatDoor
open Go Bx
set_option maxHeartbeats 2000000 in
/-- barrage/barragelaw11.slots -/
theorem c_slotsL {t : Task} {hv nv fv : Value} {now : Int} {A : List Int} {va : Value} {w0 : World} (hg : Glb w0) (h : RTask w0 [.int .i64 t.polders, hv, nv, fv] t) (hck : (checkA t).2.2 = 0) (hn : 0 ≤ now ∧ now ≤ 200000) (hA : Sl w0 1 RInt va A) (hAm : ∀ i ∈ A, 0 ≤ i ∧ i < t.towns.length) : CV Tryz.prog 27 #[.agg [.int .i64 t.polders, hv, nv, fv].toArray, .int .i64 now, va] w0 (.int .i64 ((plT t now).slots (chL t) A)) := by
  obtain ⟨hv', nv', fv', he0, hpol, hsh, hsn, hsf⟩ := id h
  obtain ⟨rfl, rfl, rfl⟩ : hv' = hv ∧ nv' = nv ∧ fv' = fv := by simpa [eq_comm] using he0
  obtain ⟨a1, cap1, rfl, hcap1, hmx1, hel1⟩ := id hsh
  obtain ⟨a2, cap2, rfl, hcap2, hmx2, hel2⟩ := id hsn
  obtain ⟨a3, cap3, rfl, hcap3, hmx3, hel3⟩ := id hsf
  obtain ⟨av, cv, rfl, hcapv, hmxv, helv⟩ := id hA
  have hok := task_ok hck
  have hn8 := hok.ntw
  have hc4 := hok.nch
  have s1 := hsh
  have s2 := hsn
  refine enter Tryz.func27 rfl Tryz.ntmps27 rfl ?_
  have hS := St.start w0
  refine seq ?_
  refine region ?_
  refine sbox hS rfl rfl ?_; clear hS; intro b3 w hS
  refine sv (yAsg rfl) ?_
  refine nil ?_
  show Code.wp _ _ _ _ _
  refine seq ?_
  refine region ?_
  refine sv (yAsg rfl) ?_
  refine nil ?_
  show Code.wp _ _ _ _ _
  refine seq ?_
  refine seq ?_
  refine region ?_
  refine sv (yAsg rfl) ?_
  refine nil ?_
  show Code.wp _ _ _ _ _
  refine block ?_
  refine loop (fun f w zz => ∃ (c : Nat), f 1 = .int .i64 now ∧ f 2 = .slice av A.length cv ∧ f 3 = .pointer (some ⟨b3, 0, none⟩) ∧ f 7 = .int .i64 (slK t now A c) ∧ f 8 = .int .i64 (c : Int) ∧ StX [] w0 w [blk b3 [.int .i64 t.polders, .slice a1 t.chans.length cap1, .slice a2 t.towns.length cap2, .slice a3 t.floods.length cap3] 26] ∧ (c ≤ t.chans.length) ∧ zz = t.chans.length - c) _ ⟨_, rfl, 0, rfl, rfl, rfl, rfl, rfl, hS, (Nat.zero_le _), rfl⟩ ?_
  clear hS
  rintro f w _ ⟨c, h1, h2, h3, h7, h8, hS, hc, rfl⟩
  refine seq ?_
  refine seq ?_
  refine region ?_
  refine sv (yMove h8) ?_
  refine sv (fa26_1 h3) ?_
  refine sv (yLdB rfl Tryz.isAgg22 (hS.at _) rfl) ?_
  refine sv (yLen rfl Tryz.underlying22) ?_
  refine sv (yLss rfl rfl) ?_
  refine nil ?_
  show Code.wp _ _ _ _ _
  refine cond rfl (fun c19 => ?_) (fun c19 => ?_)
  ·
    simp only [Bool.and_eq_true, Bool.or_eq_true, Bool.and_eq_false_iff, Bool.or_eq_false_iff, decide_eq_true_eq, decide_eq_false_iff_not, Bool.not_eq_true, Bool.not_eq_false, Bool.not_not, Bool.not_eq_eq_eq_not, Bool.not_true, Bool.not_false, Bool.false_eq_true, Bool.true_eq_false, ne_eq, Decidable.not_not, not_false_eq_true, not_true_eq_false] at c19
    have hcl : c < t.chans.length := by omega
    have hcb : 0 ≤ (c : Int) ∧ (c : Int) < t.chans.length := by omega
    have hsb := slK_bd hok hn.1 A c hc
    obtain ⟨bc, oc, csc, hac, hlc, hcsc, hRc, -⟩ := sl_at s1 (chn_i (t := t) hcb)
    obtain ⟨rfl, -⟩ := hRc
    have hco := chan_ok hok hcb
    refine skip ?_
    show Code.wp _ _ _ _ _
    refine seq ?_
    refine block ?_
    refine seq ?_
    refine region ?_
    refine sv (yAsg rfl) ?_
    refine nil ?_
    show Code.wp _ _ _ _ _
    refine seq ?_
    refine seq ?_
    refine region ?_
    refine sv (yAsg rfl) ?_
    refine nil ?_
    show Code.wp _ _ _ _ _
    refine block ?_
    refine loop (fun f w zz => ∃ (k : Nat), f 1 = .int .i64 now ∧ f 2 = .slice av A.length cv ∧ f 3 = .pointer (some ⟨b3, 0, none⟩) ∧ f 7 = .int .i64 (slK t now A c) ∧ f 8 = .int .i64 (c : Int) ∧ f 9 = .int .i64 ((plT t now).cnt (c : Int) (A.take k)) ∧ f 10 = .int .i64 (k : Int) ∧ StX [] w0 w [blk b3 [.int .i64 t.polders, .slice a1 t.chans.length cap1, .slice a2 t.towns.length cap2, .slice a3 t.floods.length cap3] 26] ∧ (k ≤ A.length) ∧ zz = A.length - k) _ ⟨_, rfl, 0, h1, h2, h3, h7, h8, rfl, rfl, hS, (Nat.zero_le _), rfl⟩ ?_
    clear hS
    rintro f w _ ⟨k, h1, h2, h3, h7, h8, h9, h10, hS, hk, rfl⟩
    refine seq ?_
    refine seq ?_
    refine region ?_
    refine sv (yMove h10) ?_
    refine sv (yMove h2) ?_
    refine sv (yLen rfl Tryz.underlying34) ?_
    refine sv (yLss rfl rfl) ?_
    refine nil ?_
    show Code.wp _ _ _ _ _
    refine cond rfl (fun c25 => ?_) (fun c25 => ?_)
    ·
      simp only [Bool.and_eq_true, Bool.or_eq_true, Bool.and_eq_false_iff, Bool.or_eq_false_iff, decide_eq_true_eq, decide_eq_false_iff_not, Bool.not_eq_true, Bool.not_eq_false, Bool.not_not, Bool.not_eq_eq_eq_not, Bool.not_true, Bool.not_false, Bool.false_eq_true, Bool.true_eq_false, ne_eq, Decidable.not_not, not_false_eq_true, not_true_eq_false] at c25
      obtain ⟨i, hxv, hdv⟩ := drop_of (l := A) (k := k) (by omega)
      obtain ⟨bv, ov, csv, hav, hlenv, hcsv, hRv⟩ := helv (k) (by omega)
      obtain rfl : i = A[k] := (List.getElem?_eq_some_iff.1 hxv).2.symm
      generalize A[k] = i at hxv hdv hRv
      obtain ⟨rfl, hiI⟩ := hRv
      have hib := hAm i (List.mem_of_getElem? hxv)
      obtain ⟨bt, ot, cst, hat, hlt, hcst, hRt, -⟩ := sl_at s2 (twn_i (t := t) hib)
      obtain ⟨dvt, rfl, -, -, -, -, hslt, -⟩ := hRt
      have hto := town_ok hok hib
      have htl := hto.lead
      have hab := arr_bd hok hib
      have hcn := cnt_bd (plT_late t hn.1) (c : Int) (A.take k)
      have hdel := hco.1
      refine skip ?_
      show Code.wp _ _ _ _ _
      refine seq ?_
      refine block ?_
      refine seq ?_
      refine seq ?_
      refine region_draw mixed (by kernel_rfl) hS ?_
      refine qv (fun w hS => (yMove h2)) ?_
      refine qv (fun w hS => (yMove h10)) ?_
      refine qv (fun w hS => (yIxa rfl hav rfl Tryz.runUnderlying34 Tryz.sizeOf3 (by omega) (by omega))) ?_
      refine qv (fun w hS => (yLd rfl Tryz.isAgg3 ((hcsv.ext hS.ext).one))) ?_
      refine qv (fun w hS => (yLss rfl rfl)) ?_
      refine qv (fun w hS => (yMove rfl)) ?_
      refine qg rfl rfl rfl (fun g w hS => (yMove h2)) (fun v34 g34 => ?_)
      refine qg rfl rfl rfl (fun g w hS => (yMove h10)) (fun v35 g35 => ?_)
      refine qg rfl rfl rfl (fun g w hS => (yIxa (g34.1 g) hav (g35.1 g) Tryz.runUnderlying34 Tryz.sizeOf3 (by omega) (by omega))) (fun v36 g36 => ?_)
      refine qg rfl rfl rfl (fun g w hS => (yLd (g36.1 g) Tryz.isAgg3 ((hcsv.ext hS.ext).one))) (fun v37 g37 => ?_)
      refine qg rfl rfl rfl (fun g w hS => (fa26_2 h3)) (fun v38 g38 => ?_)
      refine qg rfl rfl rfl (fun g w hS => (yLdB (g38.1 g) Tryz.isAgg23 (hS.at _) rfl)) (fun v39 g39 => ?_)
      refine qg rfl rfl rfl (fun g w hS => (yLen (g39.1 g) Tryz.underlying23)) (fun v40 g40 => ?_)
      refine qg rfl rfl rfl (fun g w hS => (yGeq (g37.1 g) (g40.1 g))) (fun v41 g41 => ?_)
      refine qv (fun w hS => (yOr rfl rfl (fun hB => (g41.1 hB)))) ?_
      refine qv (fun w hS => (yMove rfl)) ?_
      refine qg rfl rfl rfl (fun g w hS => (fa26_2 h3)) (fun v44 g44 => ?_)
      refine qg rfl rfl rfl (fun g w hS => (yLdB (g44.1 g) Tryz.isAgg23 (hS.at _) rfl)) (fun v45 g45 => ?_)
      refine qg rfl rfl rfl (fun g w hS => (yMove h2)) (fun v46 g46 => ?_)
      refine qg rfl rfl rfl (fun g w hS => (yMove h10)) (fun v47 g47 => ?_)
      refine qg rfl rfl rfl (fun g w hS => (yIxa (g46.1 g) hav (g47.1 g) Tryz.runUnderlying34 Tryz.sizeOf3 (by omega) (by omega))) (fun v48 g48 => ?_)
      refine qg rfl rfl rfl (fun g w hS => (yLd (g48.1 g) Tryz.isAgg3 ((hcsv.ext hS.ext).one))) (fun v49 g49 => ?_)
      refine qg rfl rfl rfl (fun g w hS => (yIxa (g45.1 g) hat (g49.1 g) Tryz.runUnderlying23 Tryz.sizeOf36 (by omega) (by omega))) (fun v50 g50 => ?_)
      refine qg rfl rfl rfl (fun g w hS => (fa36_4 (g50.1 g))) (fun v51 g51 => ?_)
      refine qg rfl rfl rfl (fun g w hS => (yLd (g51.1 g) Tryz.isAgg34 ((hcst.ext hS.ext).at (j := 4) rfl))) (fun v52 g52 => ?_)
      refine qg rfl rfl rfl (fun g w hS => (yMove h8)) (fun v53 g53 => ?_)
      refine qgc rfl rfl rfl Tryz.call21 (fun g => (.cons (g52.1 g) (.cons (g53.1 g) .nil))) (fun g w hS => (c_has (hslt.ext RInt.stays hS.ext))) (fun v54 g54 => ?_)
      refine qg rfl rfl rfl (fun g w hS => (yNot (g54.1 g))) (fun v55 g55 => ?_)
      refine qv (fun w hS => (yOr rfl rfl (fun hB => (g55.1 hB)))) ?_
      clear hS; refine qnil (fun w hS => ?_)
      show Code.wp _ _ _ _ _
      refine cond rfl (fun c56 => ?_) (fun c56 => ?_)
      ·
        have hout : ¬ (c : Int) ∈ (plT t now).chans i := fun hm => by
          have hb : ((decide (i < 0) || decide ((t.towns.length : Int) ≤ i)) || !decide ((c : Int) ∈ (twn t i).chans)) = true := c56
          rw [decide_eq_false (show ¬ i < 0 by omega), decide_eq_false (show ¬ (t.towns.length : Int) ≤ i by omega), decide_eq_true (show (c : Int) ∈ (twn t i).chans from hm)] at hb
          cases hb
        refine exit ?_
        show Code.wp _ _ _ _ _
        refine region ?_
        refine sv (yMove h10) ?_
        refine sv (yAdd rfl rfl ⟨by omega, by omega⟩) ?_
        refine sv (yAsg rfl) ?_
        refine nil ?_
        exact ⟨_, _, rfl, ⟨k + 1, h1, h2, h3, h7, h8, (h9.trans (congrArg (Value.int .i64) (by rw [take_snoc hxv, cnt_snoc, if_neg hout]))), rfl, hS, (by omega), rfl⟩, by omega⟩
      ·
        have hin : (c : Int) ∈ (plT t now).chans i := by
          have hb : ((decide (i < 0) || decide ((t.towns.length : Int) ≤ i)) || !decide ((c : Int) ∈ (twn t i).chans)) = false := c56
          rw [Bool.or_eq_false_iff] at hb
          have h2 := hb.2
          exact (show (c : Int) ∈ (twn t i).chans by simpa using h2)
        have hlt : max ((plT t now).cnt (c : Int) (A.take k)) ((plT t now).latest i (c : Int) - (plT t now).now + 1) = max ((plT t now).cnt (c : Int) (A.take k)) (min 200000 ((arr t i).1.lo - (twn t i).lead - (chn t (c : Int)).delay) - now + 1) := rfl
        refine skip ?_
        show Code.wp _ _ _ _ _
        refine seqJ (n := 104) (fun f w => ∃ (b11 : Nat), f 1 = .int .i64 now ∧ f 2 = .slice av A.length cv ∧ f 3 = .pointer (some ⟨b3, 0, none⟩) ∧ f 7 = .int .i64 (slK t now A c) ∧ f 8 = .int .i64 (c : Int) ∧ f 9 = .int .i64 ((plT t now).cnt (c : Int) (A.take k)) ∧ f 10 = .int .i64 (k : Int) ∧ f 11 = .pointer (some ⟨b11, 0, none⟩) ∧ StX [] w0 w [blk b11 [.int .i64 (arr t i).1.lo, .int .i64 (arr t i).1.hi] 44, blk b3 [.int .i64 t.polders, .slice a1 t.chans.length cap1, .slice a2 t.towns.length cap2, .slice a3 t.floods.length cap3] 26] ∧ True) ?_ ?_
        ·
          refine region_mix (fun w => StX [] w0 w [blk b3 [.int .i64 t.polders, .slice a1 t.chans.length cap1, .slice a2 t.towns.length cap2, .slice a3 t.floods.length cap3] 26]) 14 mixed hS ?_
          clear hS; intro w hS
          refine f_step 0 (by kernel_rfl) rfl (fun c a a' w h => by obtain ⟨_, v, hv, _⟩ := h; cases hv) (by first | exact hS | exact hS.sub (.cons _ (List.Sublist.refl _))) (fun w hS => (yLdBA h3 Tryz.isAgg26 Tryz.sizeOf26 (hS.at _) rfl rfl)) ?_
          refine f_step 1 (by kernel_rfl) rfl (fun c a a' w h => by obtain ⟨_, v, hv, _⟩ := h; cases hv) (by first | exact hS | exact hS.sub (.cons _ (List.Sublist.refl _))) (fun w hS => (yMove h2)) ?_
          refine f_step 2 (by kernel_rfl) rfl (fun c a a' w h => by obtain ⟨_, v, hv, _⟩ := h; cases hv) (by first | exact hS | exact hS.sub (.cons _ (List.Sublist.refl _))) (fun w hS => (yMove h10)) ?_
          refine f_step 3 (by kernel_rfl) rfl (fun c a a' w h => by obtain ⟨_, v, hv, _⟩ := h; cases hv) (by first | exact hS | exact hS.sub (.cons _ (List.Sublist.refl _))) (fun w hS => (yIxa rfl hav rfl Tryz.runUnderlying34 Tryz.sizeOf3 (by omega) (by omega))) ?_
          refine f_step 4 (by kernel_rfl) rfl (fun c a a' w h => by obtain ⟨_, v, hv, _⟩ := h; cases hv) (by first | exact hS | exact hS.sub (.cons _ (List.Sublist.refl _))) (fun w hS => (yLd rfl Tryz.isAgg3 ((hcsv.ext hS.ext).one))) ?_
          show wpA _ _ _ _ _ _ _ _ _ _
          refine a_step (i := 5) (is := [10]) (by kernel_rfl) ⟨?_, ?_, trivial⟩
          ·
            refine ⟨_, rfl, ?_⟩
            refine scall Tryz.call23 (.cons rfl (.cons rfl .nil)) (c_Arrival (hg.ext hS.ext) (h.ext hS.ext)) ?_
            rw [arrR_of hck hib]
            rintro _ w ⟨rfl, hE⟩; replace hS := hS.step hE; clear hE
            refine nil ?_
            refine ⟨fun _ => (by first | exact hS | exact hS.sub (.cons _ (List.Sublist.refl _))), ?_⟩
            show wpA _ _ _ _ _ _ _ _ _ _
            refine f_step 6 (by kernel_rfl) rfl (fun c a a' w h => by obtain ⟨_, v, hv, _⟩ := h; cases hv) (by first | exact hS | exact hS.sub (.cons _ (List.Sublist.refl _))) (fun w hS => (yMove rfl)) ?_
            refine f_step 7 (by kernel_rfl) rfl (fun c a a' w h => by obtain ⟨_, v, hv, _⟩ := h; cases hv) (by first | exact hS | exact hS.sub (.cons _ (List.Sublist.refl _))) (fun w hS => (yExt rfl rfl)) ?_
            refine f_step 8 (by kernel_rfl) rfl (fun c a a' w h => by obtain ⟨_, v, hv, _⟩ := h; cases hv) (by first | exact hS | exact hS.sub (.cons _ (List.Sublist.refl _))) (fun w hS => (yExt rfl rfl)) ?_
            refine f_step 9 (by kernel_rfl) rfl (fun c a a' w h => by obtain ⟨_, v, hv, _⟩ := h; cases hv) (by first | exact hS | exact hS.sub (.cons _ (List.Sublist.refl _))) (fun w hS => (yExt rfl rfl)) ?_
            show wpA _ _ _ _ _ _ _ _ _ _
            refine a_step (i := 10) (is := []) (by kernel_rfl) ⟨?_, trivial⟩
            refine ⟨_, rfl, ?_⟩
            refine salloc hS Tryz.zeroValue44 rfl ?_; clear hS; intro b11 w hS
            refine nil ?_
            refine ⟨fun _ => (by first | exact hS | exact hS.sub (.cons _ (List.Sublist.refl _))), ?_⟩
            show wpA _ _ _ _ _ _ _ _ _ _
            show wpA _ _ _ _ _ _ _ _ _ _
            refine a_step (i := 11) (is := []) (by kernel_rfl) ⟨?_, trivial⟩
            refine ⟨_, rfl, ?_⟩
            refine sst hS rfl rfl Tryz.sizeOf44 rfl rfl rfl rfl ?_; clear hS; intro w hS
            refine nil ?_
            refine ⟨fun _ => (by first | exact hS | exact hS.sub (.cons _ (List.Sublist.refl _))), ?_⟩
            show wpA _ _ _ _ _ _ _ _ _ _
            refine f_step 12 (by kernel_rfl) rfl (fun c a a' w h => by obtain ⟨_, v, hv, _⟩ := h; cases hv) (by first | exact hS | exact hS.sub (.cons _ (List.Sublist.refl _))) (fun w hS => (yAsg rfl)) ?_
            refine f_step 13 (by kernel_rfl) rfl (fun c a a' w h => by obtain ⟨_, v, hv, _⟩ := h; cases hv) (by first | exact hS | exact hS.sub (.cons _ (List.Sublist.refl _))) (fun w hS => (yAsg rfl)) ?_
            refine a_end (by kernel_rfl) ?_
            exact ⟨_, rfl, b11, h1, h2, h3, h7, h8, h9, h10, rfl, hS, trivial⟩
          ·
            refine ⟨_, rfl, ?_⟩
            refine salloc hS Tryz.zeroValue44 rfl ?_; clear hS; intro b11 w hS
            refine nil ?_
            refine ⟨fun _ => (by first | exact hS | exact hS.sub (.cons _ (List.Sublist.refl _))), ?_⟩
            show wpA _ _ _ _ _ _ _ _ _ _
            show wpA _ _ _ _ _ _ _ _ _ _
            refine a_step (i := 5) (is := []) (by kernel_rfl) ⟨?_, trivial⟩
            refine ⟨_, rfl, ?_⟩
            refine scall Tryz.call23 (.cons rfl (.cons rfl .nil)) (c_Arrival (hg.ext hS.ext) (h.ext hS.ext)) ?_
            rw [arrR_of hck hib]
            rintro _ w ⟨rfl, hE⟩; replace hS := hS.step hE; clear hE
            refine nil ?_
            refine ⟨fun _ => (by first | exact hS | exact hS.sub (.cons _ (List.Sublist.refl _))), ?_⟩
            show wpA _ _ _ _ _ _ _ _ _ _
            refine f_step 6 (by kernel_rfl) rfl (fun c a a' w h => by obtain ⟨_, v, hv, _⟩ := h; cases hv) (by first | exact hS | exact hS.sub (.cons _ (List.Sublist.refl _))) (fun w hS => (yMove rfl)) ?_
            refine f_step 7 (by kernel_rfl) rfl (fun c a a' w h => by obtain ⟨_, v, hv, _⟩ := h; cases hv) (by first | exact hS | exact hS.sub (.cons _ (List.Sublist.refl _))) (fun w hS => (yExt rfl rfl)) ?_
            refine f_step 8 (by kernel_rfl) rfl (fun c a a' w h => by obtain ⟨_, v, hv, _⟩ := h; cases hv) (by first | exact hS | exact hS.sub (.cons _ (List.Sublist.refl _))) (fun w hS => (yExt rfl rfl)) ?_
            refine f_step 9 (by kernel_rfl) rfl (fun c a a' w h => by obtain ⟨_, v, hv, _⟩ := h; cases hv) (by first | exact hS | exact hS.sub (.cons _ (List.Sublist.refl _))) (fun w hS => (yExt rfl rfl)) ?_
            show wpA _ _ _ _ _ _ _ _ _ _
            refine a_step (i := 11) (is := []) (by kernel_rfl) ⟨?_, trivial⟩
            refine ⟨_, rfl, ?_⟩
            refine sst hS rfl rfl Tryz.sizeOf44 rfl rfl rfl rfl ?_; clear hS; intro w hS
            refine nil ?_
            refine ⟨fun _ => (by first | exact hS | exact hS.sub (.cons _ (List.Sublist.refl _))), ?_⟩
            show wpA _ _ _ _ _ _ _ _ _ _
            refine f_step 12 (by kernel_rfl) rfl (fun c a a' w h => by obtain ⟨_, v, hv, _⟩ := h; cases hv) (by first | exact hS | exact hS.sub (.cons _ (List.Sublist.refl _))) (fun w hS => (yAsg rfl)) ?_
            refine f_step 13 (by kernel_rfl) rfl (fun c a a' w h => by obtain ⟨_, v, hv, _⟩ := h; cases hv) (by first | exact hS | exact hS.sub (.cons _ (List.Sublist.refl _))) (fun w hS => (yAsg rfl)) ?_
            refine a_end (by kernel_rfl) ?_
            exact ⟨_, rfl, b11, h1, h2, h3, h7, h8, h9, h10, rfl, hS, trivial⟩
        ·
          clear hS; rintro f w ⟨b11, h1, h2, h3, h7, h8, h9, h10, h11, hS, -⟩
          refine seq ?_
          refine region_draw mixed (by kernel_rfl) hS ?_
          refine qv (fun w hS => (fa44_0 h11)) ?_
          refine qv (fun w hS => (yLdB rfl Tryz.isAgg3 (hS.at _) rfl)) ?_
          refine qv (fun w hS => (fa26_2 h3)) ?_
          refine qv (fun w hS => (yLdB rfl Tryz.isAgg23 (hS.at _) rfl)) ?_
          refine qv (fun w hS => (yMove h2)) ?_
          refine qv (fun w hS => (yMove h10)) ?_
          refine qv (fun w hS => (yIxa rfl hav rfl Tryz.runUnderlying34 Tryz.sizeOf3 (by omega) (by omega))) ?_
          refine qv (fun w hS => (yLd rfl Tryz.isAgg3 ((hcsv.ext hS.ext).one))) ?_
          refine qv (fun w hS => (yIxa rfl hat rfl Tryz.runUnderlying23 Tryz.sizeOf36 (by omega) (by omega))) ?_
          refine qv (fun w hS => (fa36_3 rfl)) ?_
          refine qv (fun w hS => (yLd rfl Tryz.isAgg3 ((hcst.ext hS.ext).at (j := 3) rfl))) ?_
          refine qv (fun w hS => (ySub rfl rfl ⟨by omega, by omega⟩)) ?_
          refine qv (fun w hS => (fa26_1 h3)) ?_
          refine qv (fun w hS => (yLdB rfl Tryz.isAgg22 (hS.at _) rfl)) ?_
          refine qv (fun w hS => (yMove h8)) ?_
          refine qv (fun w hS => (yIxa rfl hac rfl Tryz.runUnderlying22 Tryz.sizeOf41 (by omega) (by omega))) ?_
          refine qv (fun w hS => (fa41_1 rfl)) ?_
          refine qv (fun w hS => (yLd rfl Tryz.isAgg3 ((hcsc.ext hS.ext).at (j := 1) rfl))) ?_
          refine qv (fun w hS => (ySub rfl rfl ⟨by omega, by omega⟩)) ?_
          refine qv (fun w hS => (yMin rfl rfl)) ?_
          refine qv (fun w hS => (yAsg rfl)) ?_
          clear hS; refine qnil (fun w hS => ?_)
          show Code.wp _ _ _ _ _
          refine region ?_
          refine sv (yMove h9) ?_
          refine sv (yMove rfl) ?_
          refine sv (yMove h1) ?_
          refine sv (ySub rfl rfl ⟨by omega, by omega⟩) ?_
          refine sv (yAdd rfl rfl ⟨by omega, by omega⟩) ?_
          refine sv (yMax rfl rfl) ?_
          refine sv (yAsg rfl) ?_
          refine nil ?_
          show Code.wp _ _ _ _ _
          refine region ?_
          refine sv (yMove h10) ?_
          refine sv (yAdd rfl rfl ⟨by omega, by omega⟩) ?_
          refine sv (yAsg rfl) ?_
          refine nil ?_
          exact ⟨_, _, rfl, ⟨k + 1, h1, h2, h3, h7, h8, (rfl.trans (congrArg (Value.int .i64) (by rw [take_snoc hxv, cnt_snoc, if_pos hin, hlt]))), rfl, (hS.sub (.cons _ (List.Sublist.refl _))), (by omega), rfl⟩, by omega⟩
    ·
      simp only [Bool.and_eq_true, Bool.or_eq_true, Bool.and_eq_false_iff, Bool.or_eq_false_iff, decide_eq_true_eq, decide_eq_false_iff_not, Bool.not_eq_true, Bool.not_eq_false, Bool.not_not, Bool.not_eq_eq_eq_not, Bool.not_true, Bool.not_false, Bool.false_eq_true, Bool.true_eq_false, ne_eq, Decidable.not_not, not_false_eq_true, not_true_eq_false] at c25
      obtain rfl : k = A.length := by omega
      rw [List.take_length] at h9
      have hcn := cnt_bd (plT_late t hn.1) (c : Int) A
      have hpr := prod_bd hcn hco.2
      refine exit ?_
      show Code.wp _ _ _ _ _
      refine region ?_
      refine sv (yMove h7) ?_
      refine sv (yMove h9) ?_
      refine sv (fa26_1 h3) ?_
      refine sv (yLdB rfl Tryz.isAgg22 (hS.at _) rfl) ?_
      refine sv (yMove h8) ?_
      refine sv (yIxa rfl hac rfl Tryz.runUnderlying22 Tryz.sizeOf41 (by omega) (by omega)) ?_
      refine sv (fa41_2 rfl) ?_
      refine sv (yLd rfl Tryz.isAgg3 ((hcsc.ext hS.ext).at (j := 2) rfl)) ?_
      refine sv (yMul rfl rfl ⟨by omega, by omega⟩) ?_
      refine sv (yAdd rfl rfl ⟨by omega, by omega⟩) ?_
      refine sv (yAsg rfl) ?_
      refine nil ?_
      show Code.wp _ _ _ _ _
      refine region ?_
      refine sv (yMove h8) ?_
      refine sv (yAdd rfl rfl ⟨by omega, by omega⟩) ?_
      refine sv (yAsg rfl) ?_
      refine nil ?_
      exact ⟨_, _, rfl, ⟨c + 1, h1, h2, h3, (rfl.trans (congrArg (Value.int .i64) (slK_succ now A hcl).symm)), rfl, hS, (by omega), rfl⟩, by omega⟩
  ·
    simp only [Bool.and_eq_true, Bool.or_eq_true, Bool.and_eq_false_iff, Bool.or_eq_false_iff, decide_eq_true_eq, decide_eq_false_iff_not, Bool.not_eq_true, Bool.not_eq_false, Bool.not_not, Bool.not_eq_eq_eq_not, Bool.not_true, Bool.not_false, Bool.false_eq_true, Bool.true_eq_false, ne_eq, Decidable.not_not, not_false_eq_true, not_true_eq_false] at c19
    obtain rfl : c = t.chans.length := by omega
    refine exit ?_
    show Code.wp _ _ _ _ _
    refine seq ?_
    refine region ?_
    refine sv (yMove h7) ?_
    refine sv (yAsg rfl) ?_
    refine nil ?_
    show Code.wp _ _ _ _ _
    refine wp_ret ?_
    exact retV (res1 rfl (eqI (slK_end t now A).symm)) hS.ext
end Go.Proofs.YtmoilbakmlekbaaGreatDoor
/- part A21 -/
namespace Bx
open Go Go.RowKit
section
variable {P : Program} {ρ : Operand → Value} {w : World} {ty : TypeId}
theorem yShrI {x y : Operand} {a k : Int} {t t' : TypeId} (hx : ρ x = .int .i64 a) (hy : ρ y = .int .i64 k) (h0 : 0 ≤ k) (h8 : k < 64) : Y P ρ (.binOp .shr t x y t') ty w (.int .i64 (a / 2 ^ k.toNat)) w := by
  have h1 : ¬ k < 0 := by omega
  have h2 : min k.toNat 64 = k.toNat := by omega
  simp [Y, xop, execOp, hx, hy, eqGuard, binOp, Op.shift, IntKind.bits, Int.fdiv_eq_ediv, h1, h2]
end
def hallB (t : Task) (tw i : Int) : Bool := ((true && decide (0 < (arr t i).2)) && decide (i < 8)) && decide (tw / 2 ^ i.toNat % 2 = 1)
def hallK (t : Task) (tw : Int) (k : Nat) : List Int := ((idxL t).take k).filter (hallB t tw)
theorem hallK_len (t : Task) (tw : Int) (k : Nat) : (hallK t tw k).length ≤ k := Nat.le_trans (List.length_filter_le _ _) (by simp; omega)
theorem hallK_sub (t : Task) (tw : Int) : (hallK t tw t.towns.length).Sublist (wetL t) := by
  unfold hallK wetL
  rw [← idxL_len, List.take_length]
  have h : ∀ l : List Int, (l.filter (hallB t tw)).Sublist (l.filter fun i => decide (0 < (arr t i).2)) := fun l => by
    have e : l.filter (hallB t tw) = (l.filter fun i => decide (0 < (arr t i).2)).filter (hallB t tw) := by
      rw [List.filter_filter]
      congr 1
      funext i
      unfold hallB
      cases decide (0 < (arr t i).2) <;> simp
    rw [e]
    exact List.filter_sublist
  exact h _
theorem chL_nod (t : Task) : (chL t).Nodup := by
  unfold chL
  exact List.pairwise_map.2 ((List.nodup_range (n := t.chans.length)).imp fun h e => h (Int.ofNat.inj e))
theorem wetL_nod (t : Task) : (wetL t).Nodup := (wetL_asc t).imp fun h => by omega
theorem chL_mem {t : Task} (ht : TaskOk t) : ∀ i, ∀ c ∈ (twn t i).chans, c ∈ chL t := fun i c hc => by
  have h := chan_mem ht hc
  exact List.mem_map.2 ⟨c.toNat, List.mem_range.2 (by omega), by show ((c.toNat : Nat) : Int) = c; omega⟩
theorem hall_law {t : Task} {now : Int} {A : List Int} (hck : (checkA t).2.2 = 0) (hn : 0 ≤ now ∧ now ≤ 200000) (hA : A.Sublist (wetL t)) : (A.length : Int) ≤ (plT t now).slots (chL t) A ∨ (planR t now).2 = 9 := by
  have hok := task_ok hck
  by_cases h : (A.length : Int) ≤ (plT t now).slots (chL t) A
  · exact .inl h
  · have hp : (plT t now).plan (fuelT t) = none := blk_none (chL_nod t) (wetL_nod t) (chL_mem hok) (fun c => (room_le hok c).1) (fuel_UU hok now) ((wetL_nod t).sublist hA) (fun a ha => hA.subset ha) (by unfold Pl.blk; omega)
    refine .inr ?_
    unfold planR planA
    rw [hp, if_neg]
    unfold atE
    rw [if_neg (fun h' => h' hck), if_neg (by rw [outB_false.2 hn]; decide)]
    simp
theorem hall_bool {a b : Int} {p : Int} (h : a ≤ b ∨ p = 9) : ((decide (a ≤ b) || decide (p = 9)) && true) = true := by
  rcases h with h | h <;> simp [h]
end Bx
/- part Aw25 -/
namespace Go.Proofs.YtmoilbakmlekbaaGreatDoor
open Go Bx
set_option maxHeartbeats 2000000 in
/-- barrage/barragelaw11.AlarmHall -/
theorem w_AlarmHall {t : Task} {cs : List Value} {now tw : Int} {w0 : World} (hg : Glb w0) (h : RTask w0 cs t) (_ : I64 now) (htw : 0 ≤ tw ∧ tw ≤ 255) : CV Tryz.prog 5 #[.agg cs.toArray, .int .i64 now, .int .u8 tw] w0 (.bool true) := by
  obtain ⟨hv, nv, fv, rfl, hpol, hsh, hsn, hsf⟩ := id h
  obtain ⟨a1, cap1, rfl, hcap1, hmx1, hel1⟩ := id hsh
  obtain ⟨a2, cap2, rfl, hcap2, hmx2, hel2⟩ := id hsn
  obtain ⟨a3, cap3, rfl, hcap3, hmx3, hel3⟩ := id hsf
  refine enter Tryz.func5 rfl Tryz.ntmps5 rfl ?_
  have hS := St.start w0
  refine seq ?_
  refine region ?_
  refine sbox hS rfl rfl ?_; clear hS; intro b3 w hS
  refine sv (yAsg rfl) ?_
  refine nil ?_
  show Code.wp _ _ _ _ _
  refine seq ?_
  refine region ?_
  refine sv (yLdBA rfl Tryz.isAgg26 Tryz.sizeOf26 (hS.at _) rfl rfl) ?_
  refine sv (yMove rfl) ?_
  refine scall Tryz.call18 (.cons rfl (.cons rfl .nil)) (c_Plan (hg.ext hS.ext) (h.ext hS.ext)) ?_
  rintro _ w ⟨pv, rfl, hM⟩; replace hS := hS.step hM.ext; clear hM
  refine sv (yMove rfl) ?_
  refine sv (yExt rfl rfl) ?_
  refine sv (yExt rfl rfl) ?_
  refine sv (yAsg rfl) ?_
  refine sv (yAsg rfl) ?_
  refine nil ?_
  show Code.wp _ _ _ _ _
  refine seq ?_
  refine region ?_
  refine sv (yLdBA rfl Tryz.isAgg26 Tryz.sizeOf26 (hS.at _) rfl rfl) ?_
  refine scall Tryz.call19 (.cons rfl .nil) (c_CheckA (hg.ext hS.ext) (h.ext hS.ext)) ?_
  rintro _ w ⟨rfl, hE⟩; replace hS := hS.step hE; clear hE
  refine sv (yMove rfl) ?_
  refine sv (yExt rfl rfl) ?_
  refine sv (yExt rfl rfl) ?_
  refine sv (yExt rfl rfl) ?_
  refine sv (yAsg rfl) ?_
  refine sv (yAsg rfl) ?_
  refine sv (yAsg rfl) ?_
  refine nil ?_
  show Code.wp _ _ _ _ _
  refine seq ?_
  refine seq ?_
  refine region ?_
  refine sv (yMove rfl) ?_
  refine sv (yNeq rfl rfl) ?_
  refine sv (yMove rfl) ?_
  refine sg rfl rfl rfl (fun g => (yMove rfl)) (fun v32 g32 => ?_)
  refine sg rfl rfl rfl (fun g => (yLss (g32.1 g) rfl)) (fun v33 g33 => ?_)
  refine sv (yOr rfl rfl (fun hB => (g33.1 hB))) ?_
  refine sv (yMove rfl) ?_
  refine sg rfl rfl rfl (fun g => (yMove rfl)) (fun v36 g36 => ?_)
  refine sg rfl rfl rfl (fun g => (yGtr (g36.1 g) rfl)) (fun v37 g37 => ?_)
  refine sv (yOr rfl rfl (fun hB => (g37.1 hB))) ?_
  refine nil ?_
  show Code.wp _ _ _ _ _
  refine cond rfl (fun c38 => ?_) (fun c38 => ?_)
  ·
    simp only [Bool.and_eq_true, Bool.or_eq_true, Bool.and_eq_false_iff, Bool.or_eq_false_iff, decide_eq_true_eq, decide_eq_false_iff_not, Bool.not_eq_true, Bool.not_eq_false, Bool.not_not, Bool.not_eq_eq_eq_not, Bool.not_true, Bool.not_false, Bool.false_eq_true, Bool.true_eq_false, ne_eq, Decidable.not_not, not_false_eq_true, not_true_eq_false] at c38
    refine seq ?_
    refine region ?_
    refine scall Tryz.call20 .nil (c_Awake (hg.ext hS.ext)) ?_
    rintro _ w ⟨rfl, hE⟩; replace hS := hS.step hE; clear hE
    refine sv (yAsg rfl) ?_
    refine nil ?_
    show Code.wp _ _ _ _ _
    refine wp_ret (thenR ?_)
    exact retV (res1 rfl rfl) hS.ext
  ·
    simp only [Bool.and_eq_true, Bool.or_eq_true, Bool.and_eq_false_iff, Bool.or_eq_false_iff, decide_eq_true_eq, decide_eq_false_iff_not, Bool.not_eq_true, Bool.not_eq_false, Bool.not_not, Bool.not_eq_eq_eq_not, Bool.not_true, Bool.not_false, Bool.false_eq_true, Bool.true_eq_false, ne_eq, Decidable.not_not, not_false_eq_true, not_true_eq_false] at c38
    have hck : (checkA t).2.2 = 0 := by omega
    have hn : 0 ≤ now ∧ now ≤ 200000 := by omega
    have hok := task_ok hck
    have hn8 := hok.ntw
    refine skip ?_
    show Code.wp _ _ _ _ _
    refine seq ?_
    refine region ?_
    refine sv (yAsg rfl) ?_
    refine nil ?_
    show Code.wp _ _ _ _ _
    refine seq ?_
    refine seq ?_
    refine region ?_
    refine sv (yAsg rfl) ?_
    refine nil ?_
    show Code.wp _ _ _ _ _
    refine block ?_
    refine loop (fun f w zz => ∃ (k : Nat) (v : Value), f 1 = .int .i64 now ∧ f 2 = .int .u8 tw ∧ f 3 = .pointer (some ⟨b3, 0, none⟩) ∧ f 8 = .int .i64 (planR t now).2 ∧ f 12 = v ∧ f 13 = .int .i64 (k : Int) ∧ StX [] w0 w [rowI v 3 1 (hallK t tw k).length ((hallK t tw k).flatMap Bx.encI), blk b3 [.int .i64 t.polders, .slice a1 t.chans.length cap1, .slice a2 t.towns.length cap2, .slice a3 t.floods.length cap3] 26] ∧ (k ≤ t.towns.length) ∧ zz = t.towns.length - k) _ ⟨_, rfl, 0, _, rfl, rfl, rfl, rfl, rfl, rfl, (hS.nilrow 3 1), (Nat.zero_le _), rfl⟩ ?_
    clear hS
    rintro f w _ ⟨k, v, h1, h2, h3, h8, h12, h13, hS, hk, rfl⟩
    refine seq ?_
    refine seq ?_
    refine region ?_
    refine sv (yMove h13) ?_
    refine sv (fa26_2 h3) ?_
    refine sv (yLdB rfl Tryz.isAgg23 (hS.at _) rfl) ?_
    refine sv (yLen rfl Tryz.underlying23) ?_
    refine sv (yLss rfl rfl) ?_
    refine nil ?_
    show Code.wp _ _ _ _ _
    refine cond rfl (fun c44 => ?_) (fun c44 => ?_)
    ·
      simp only [Bool.and_eq_true, Bool.or_eq_true, Bool.and_eq_false_iff, Bool.or_eq_false_iff, decide_eq_true_eq, decide_eq_false_iff_not, Bool.not_eq_true, Bool.not_eq_false, Bool.not_not, Bool.not_eq_eq_eq_not, Bool.not_true, Bool.not_false, Bool.false_eq_true, Bool.true_eq_false, ne_eq, Decidable.not_not, not_false_eq_true, not_true_eq_false] at c44
      have hkn : k < t.towns.length := by omega
      have hib : 0 ≤ (k : Int) ∧ (k : Int) < t.towns.length := by omega
      have hkl := hallK_len t tw k
      obtain ⟨e0, hz0, ha0⟩ : ∃ e0 : Int, e0 = 0 ∧ arrR t (k : Int) = (arr t (k : Int), e0) := ⟨0, rfl, arrR_of hck hib⟩
      have hpw : 0 ≤ tw / 2 ^ (k : Int).toNat := Int.ediv_nonneg htw.1 (Int.pow_nonneg (by decide))
      refine skip ?_
      show Code.wp _ _ _ _ _
      refine seq ?_
      refine block ?_
      refine seqJ (n := 90) (fun f w => ∃ (b14 : Nat), f 1 = .int .i64 now ∧ f 2 = .int .u8 tw ∧ f 3 = .pointer (some ⟨b3, 0, none⟩) ∧ f 8 = .int .i64 (planR t now).2 ∧ f 12 = v ∧ f 13 = .int .i64 (k : Int) ∧ f 15 = .int .i64 (arr t (k : Int)).2 ∧ f 16 = .int .i64 e0 ∧ StX [] w0 w [blk b14 [.int .i64 (arr t (k : Int)).1.lo, .int .i64 (arr t (k : Int)).1.hi] 44, rowI v 3 1 (hallK t tw k).length ((hallK t tw k).flatMap Bx.encI), blk b3 [.int .i64 t.polders, .slice a1 t.chans.length cap1, .slice a2 t.towns.length cap2, .slice a3 t.floods.length cap3] 26] ∧ True) ?_ ?_
      ·
        refine region ?_
        refine sv (yLdBA h3 Tryz.isAgg26 Tryz.sizeOf26 (hS.at _) rfl rfl) ?_
        refine sv (yMove h13) ?_
        refine scall Tryz.call23 (.cons rfl (.cons rfl .nil)) (c_Arrival (hg.ext hS.ext) (h.ext hS.ext)) ?_
        rw [ha0]
        rintro _ w ⟨rfl, hE⟩; replace hS := hS.step hE; clear hE
        refine sv (yMove rfl) ?_
        refine sv (yExt rfl rfl) ?_
        refine sv (yExt rfl rfl) ?_
        refine sv (yExt rfl rfl) ?_
        refine salloc hS Tryz.zeroValue44 rfl ?_; clear hS; intro b14 w hS
        refine sst hS rfl rfl Tryz.sizeOf44 rfl rfl rfl rfl ?_; clear hS; intro w hS
        refine sv (yAsg rfl) ?_
        refine sv (yAsg rfl) ?_
        refine nil ?_
        exact ⟨_, rfl, b14, h1, h2, h3, h8, h12, h13, rfl, rfl, hS, trivial⟩
      ·
        clear hS; rintro f w ⟨b14, h1, h2, h3, h8, h12, h13, h15, h16, hS, -⟩
        refine seq ?_
        refine region ?_
        refine sv (yMove h16) ?_
        refine sv (yEql rfl rfl) ?_
        refine sv (yMove rfl) ?_
        refine sg rfl rfl rfl (fun g => (yMove h15)) (fun v57 g57 => ?_)
        refine sg rfl rfl rfl (fun g => (yGtr (g57.1 g) rfl)) (fun v58 g58 => ?_)
        refine sv (yAnd rfl (fun hB => (g58.1 hB)) rfl) ?_
        refine sv (yMove rfl) ?_
        refine sg rfl rfl rfl (fun g => (yMove h13)) (fun v61 g61 => ?_)
        refine sg rfl rfl rfl (fun g => (yLss (g61.1 g) rfl)) (fun v62 g62 => ?_)
        refine sv (yAnd rfl (fun hB => (g62.1 hB)) rfl) ?_
        refine sv (yMove rfl) ?_
        refine sg rfl rfl rfl (fun g => (yMove h2)) (fun v65 g65 => ?_)
        refine sg rfl rfl rfl (fun g => (yToI (g65.1 g) Tryz.underlying5 Tryz.underlying3 ⟨by omega, by omega⟩)) (fun v66 g66 => ?_)
        refine sg rfl rfl rfl (fun g => (yMove h13)) (fun v67 g67 => ?_)
        refine sg rfl rfl rfl (fun g => (yShrI (g66.1 g) (g67.1 g) (by omega) (by omega))) (fun v68 g68 => ?_)
        refine sg rfl rfl rfl (fun g => (yRemP (g68.1 g) rfl hpw (by decide))) (fun v69 g69 => ?_)
        refine sg rfl rfl rfl (fun g => (yEql (g69.1 g) rfl)) (fun v70 g70 => ?_)
        refine sv (yAnd rfl (fun hB => (g70.1 hB)) rfl) ?_
        refine nil ?_
        show Code.wp _ _ _ _ _
        refine cond rfl (fun c71 => ?_) (fun c71 => ?_)
        ·
          have hbb : hallB t tw (k : Int) = true := by
            have hb : (((decide (e0 = 0) && decide (0 < (arr t (k : Int)).2)) && decide ((k : Int) < 8)) && decide (tw / 2 ^ (k : Int).toNat % 2 = 1)) = true := c71
            rw [decide_eq_true hz0] at hb
            exact hb
          refine region ?_
          refine sv (yMove h12) ?_
          refine sv (yMove h13) ?_
          refine sbslice hS Tryz.underlying34 Tryz.sizeOf3 rfl Tryz.zeroValue3 rfl (.cons rfl rfl .nil) rfl ?_; clear hS; intro b74 w hS
          refine sapp (bytes := 8) (size := 1) (v := v) (m := 1) hS rfl rfl Tryz.underlying34 ti3 rfl rfl rfl rfl (by decide) (blk_cells (hS.at _)) rfl rfl (by omega) (by omega) ?_; clear hS; intro v75 w hS
          refine sv (yAsg rfl) ?_
          refine nil ?_
          show Code.wp _ _ _ _ _
          refine region ?_
          refine sv (yMove h13) ?_
          refine sv (yAdd rfl rfl ⟨by omega, by omega⟩) ?_
          refine sv (yAsg rfl) ?_
          refine nil ?_
          exact ⟨_, _, rfl, ⟨k + 1, _, h1, h2, h3, h8, rfl, rfl, (by rw [show hallK t tw (k + 1) = hallK t tw k ++ [(k : Int)] from filt_in (p := hallB t tw) hkn hbb, List.flatMap_append, List.length_append]; exact hS.sub (.cons _ (.cons _ (List.Sublist.refl _)))), (by omega), rfl⟩, by omega⟩
        ·
          have hbb : hallB t tw (k : Int) = false := by
            have hb : (((decide (e0 = 0) && decide (0 < (arr t (k : Int)).2)) && decide ((k : Int) < 8)) && decide (tw / 2 ^ (k : Int).toNat % 2 = 1)) = false := c71
            rw [decide_eq_true hz0] at hb
            exact hb
          refine skip ?_
          show Code.wp _ _ _ _ _
          refine region ?_
          refine sv (yMove h13) ?_
          refine sv (yAdd rfl rfl ⟨by omega, by omega⟩) ?_
          refine sv (yAsg rfl) ?_
          refine nil ?_
          exact ⟨_, _, rfl, ⟨k + 1, _, h1, h2, h3, h8, h12, rfl, (by rw [show hallK t tw (k + 1) = hallK t tw k from filt_out (p := hallB t tw) hkn hbb]; exact hS.sub (.cons _ (List.Sublist.refl _))), (by omega), rfl⟩, by omega⟩
    ·
      simp only [Bool.and_eq_true, Bool.or_eq_true, Bool.and_eq_false_iff, Bool.or_eq_false_iff, decide_eq_true_eq, decide_eq_false_iff_not, Bool.not_eq_true, Bool.not_eq_false, Bool.not_not, Bool.not_eq_eq_eq_not, Bool.not_true, Bool.not_false, Bool.false_eq_true, Bool.true_eq_false, ne_eq, Decidable.not_not, not_false_eq_true, not_true_eq_false] at c44
      obtain rfl : k = t.towns.length := by omega
      have hkl := hallK_len t tw t.towns.length
      have hms : ∀ x ∈ hallK t tw t.towns.length, 0 ≤ x ∧ x < (t.towns.length : Int) := fun x hx => idxL_mem (List.mem_of_mem_take (List.mem_filter.1 hx).1)
      refine exit ?_
      show Code.wp _ _ _ _ _
      refine seq ?_
      refine region ?_
      refine sv (yLdBA h3 Tryz.isAgg26 Tryz.sizeOf26 (hS.at _) rfl rfl) ?_
      refine sv (yMove h1) ?_
      refine sv (yMove h12) ?_
      obtain ⟨av, cv, rfl⟩ := row_shape (hS.row v)
      refine scall Tryz.call27 (.cons rfl (.cons rfl (.cons rfl .nil))) (c_slotsL (hg.ext hS.ext) (h.ext hS.ext) hck hn (sl_ints (hS.row (.slice av (hallK t tw t.towns.length).length cv)) rfl (fun x hx => by have := hms x hx; constructor <;> omega)) hms) ?_
      rintro _ w ⟨rfl, hE⟩; replace hS := hS.step hE; clear hE
      refine sv (yMove h12) ?_
      refine sv (yLen rfl Tryz.underlying34) ?_
      refine sv (yGeq rfl rfl) ?_
      refine sv (yMove rfl) ?_
      refine sg rfl rfl rfl (fun g => (yMove h8)) (fun v84 g84 => ?_)
      refine sg rfl rfl rfl (fun g => (yEql (g84.1 g) rfl)) (fun v85 g85 => ?_)
      refine sv (yOr rfl rfl (fun hB => (g85.1 hB))) ?_
      refine sv (yMove rfl) ?_
      refine sgc hS rfl rfl rfl Tryz.call20 (fun g => .nil) (fun g => (c_Awake (hg.ext hS.ext))) ?_; clear hS; intro v88 w hS g88
      refine sv (yAnd rfl (fun hB => (g88.1 hB)) rfl) ?_
      refine sv (yAsg rfl) ?_
      refine nil ?_
      show Code.wp _ _ _ _ _
      refine wp_ret ?_
      exact retV (res1 rfl (eqB (hall_bool (hall_law hck hn (hallK_sub t tw))).symm)) hS.ext
end Go.Proofs.YtmoilbakmlekbaaGreatDoor
/- part A22 -/
namespace Bx
open Go Go.RowKit
/-- What a prefix of the histories says of a town. -/
def arrP (t : Task) (x : Town) (k : Nat) : Span × Int := (t.floods.take k).foldl (arrStep x) (⟨0, 0⟩, 0)
theorem arrP_succ {t : Task} {x : Town} {k : Nat} {l : List Int} (h : t.floods[k]? = some l) : arrP t x (k + 1) = arrStep x (arrP t x k) l := by
  unfold arrP; rw [take_snoc h, List.foldl_append]; rfl
theorem arrP_end (t : Task) (x : Town) : arrP t x t.floods.length = arrF t x := by unfold arrP arrF; rw [List.take_length]
def fld (x : Town) (l : List Int) : Int := l.getD x.polder.toNat 0
theorem arrP_spec (t : Task) (x : Town) : ∀ k, k ≤ t.floods.length → 0 ≤ (arrP t x k).2 ∧ ((arrP t x k).2 = 0 ↔ ∀ (j : Nat) l, j < k → t.floods[j]? = some l → fld x l < 0) ∧ ∀ (j : Nat) l, j < k → t.floods[j]? = some l → 0 ≤ fld x l → (arrP t x k).1.lo ≤ fld x l + x.travel
  | 0, _ => ⟨Int.le_refl _, ⟨fun _ j l hj => absurd hj (Nat.not_lt_zero j), fun _ => rfl⟩, fun j l hj => absurd hj (Nat.not_lt_zero j)⟩
  | k + 1, hk => by
    obtain ⟨h0, h1, h2⟩ := arrP_spec t x k (by omega)
    obtain ⟨l, hl, -⟩ := drop_of (l := t.floods) (k := k) (by omega)
    rw [arrP_succ hl]
    have hstep : arrStep x (arrP t x k) l = if fld x l < 0 then arrP t x k else if (arrP t x k).2 = 0 then (⟨fld x l + x.travel, fld x l + x.travel⟩, 1) else (⟨min (arrP t x k).1.lo (fld x l + x.travel), max (arrP t x k).1.hi (fld x l + x.travel)⟩, (arrP t x k).2 + 1) := rfl
    rw [hstep]
    have hat : ∀ {j : Nat} {m}, t.floods[j]? = some m → j = k → m = l := fun hm e => by subst e; rw [hl] at hm; cases hm; rfl
    split
    next hn =>
      refine ⟨h0, ⟨fun h j m hj hm => ?_, fun h => h1.2 fun j m hj hm => h j m (by omega) hm⟩, fun j m hj hm hp => ?_⟩
      · by_cases e : j = k
        · rw [hat hm e]; exact hn
        · exact h1.1 h j m (by omega) hm
      · by_cases e : j = k
        · rw [hat hm e] at hp; omega
        · exact h2 j m (by omega) hm hp
    next hn =>
      split
      next hz =>
        refine ⟨by simp only; omega, ⟨fun h => (nomatch h), fun h => absurd (h k l (by omega) hl) hn⟩, fun j m hj hm hp => ?_⟩
        by_cases e : j = k
        · rw [hat hm e]; exact Int.le_refl _
        · exact absurd (h1.1 hz j m (by omega) hm) (by omega)
      next hz =>
        refine ⟨by simp only; omega, ⟨fun h => by simp only at h; omega, fun h => absurd (h k l (by omega) hl) hn⟩, fun j m hj hm hp => ?_⟩
        by_cases e : j = k
        · rw [hat hm e]; simp only; omega
        · have := h2 j m (by omega) hm hp
          simp only; omega
theorem okL_all {P : Pl} : ∀ (l : List Slot), OkL P [] l → (∀ s ∈ l, s.channel ∈ P.chans s.town ∧ P.now ≤ s.sent ∧ s.sent ≤ P.latest s.town s.channel) ∧ ∀ s ∈ l, (usedN l s.pl : Int) ≤ P.room s.channel := by
  intro l
  induction l using snocR with
  | h0 => exact fun _ => ⟨fun _ h => (nomatch h), fun _ h => (nomatch h)⟩
  | h1 l s ih =>
    intro h
    obtain ⟨h1, h2⟩ := (OkL.app l [] [s]).1 h
    rw [List.nil_append] at h2
    obtain ⟨⟨k1, k2, k3, k4⟩, -⟩ := h2
    obtain ⟨i1, i2⟩ := ih h1
    refine ⟨fun y hy => ?_, fun y hy => ?_⟩
    · rcases List.mem_append.1 hy with hy | hy
      · exact i1 y hy
      · rw [List.mem_singleton.1 hy]; exact ⟨k1, k2, k3⟩
    · rw [usedN_snoc]
      by_cases e : s.pl = y.pl
      · rw [if_pos e, ← e]
        have hc : s.channel = y.channel := congrArg Prod.fst e
        rw [← hc]; push_cast; omega
      · rw [if_neg e]
        rcases List.mem_append.1 hy with hy | hy
        · have := i2 y hy; push_cast; omega
        · rw [List.mem_singleton.1 hy] at e; exact absurd rfl e
structure InTime (t : Task) (now : Int) (L : List Slot) : Prop where
  towns : L.map (·.town) = wetL t
  fits : ∀ s ∈ L, s.channel ∈ (twn t s.town).chans ∧ now ≤ s.sent ∧ s.sent ≤ latestF t s.town s.channel
  room : ∀ s ∈ L, (usedN L s.pl : Int) ≤ (chn t s.channel).room
theorem plan_intime {t : Task} {now : Int} (h : (planR t now).2 = 0) : TaskOk t ∧ InTime t now (planR t now).1 := by
  unfold planR at h ⊢
  split at h
  next h1 => exact absurd h h1
  next h1 =>
    have hck : (checkA t).2.2 = 0 := by
      by_cases e : (checkA t).2.2 = 0
      · exact e
      · exact absurd (by unfold atE; rw [if_pos e]; exact e) h1
    have hok := task_ok hck
    rw [if_neg h1]
    cases hp : planA t now with
    | none => rw [hp] at h; cases h
    | some L =>
      have hr : (plT t now).ref (wetL t) [] = some L := by
        rw [← hp]; unfold planA
        exact (plan_ref (chL_nod t) (wetL_nod t) (chL_mem hok) (fuel_UU hok now)).symm
      obtain ⟨o1, T, o2, o3⟩ := ref_ok (wetL t) [] L trivial hr
      rw [List.nil_append] at o2
      subst o2
      obtain ⟨q1, q2⟩ := okL_all L o1
      exact ⟨hok, o3, q1, q2⟩
end Bx
/- part A23 -/
namespace Bx
open Go Go.RowKit
def wetN (t : Task) (k : Nat) : Nat := (((idxL t).take k).filter fun i => decide (0 < (arr t i).2)).length
theorem wetN_out {t : Task} {k : Nat} (hk : k < t.towns.length) (h : ¬ 0 < (arr t (k : Int)).2) : wetN t (k + 1) = wetN t k := by
  unfold wetN; rw [filt_out (p := fun i => decide (0 < (arr t i).2)) hk (decide_eq_false h)]
theorem wetN_in {t : Task} {k : Nat} (hk : k < t.towns.length) (h : 0 < (arr t (k : Int)).2) : wetN t (k + 1) = wetN t k + 1 := by
  unfold wetN; rw [filt_in (p := fun i => decide (0 < (arr t i).2)) hk (decide_eq_true h), List.length_append]; rfl
theorem wetN_end (t : Task) : wetN t t.towns.length = (wetL t).length := by unfold wetN wetL; rw [← idxL_len, List.take_length]
theorem wetN_at {t : Task} {k : Nat} (hk : k < t.towns.length) (h : 0 < (arr t (k : Int)).2) : (wetL t)[wetN t k]? = some (k : Int) := by
  have e : wetL t = ((idxL t).take k).filter (fun i => decide (0 < (arr t i).2)) ++ ((k : Int) :: ((idxL t).drop (k + 1)).filter fun i => decide (0 < (arr t i).2)) := by
    obtain ⟨x, hx, hd⟩ := drop_of (l := idxL t) (k := k) (by rw [idxL_len]; exact hk)
    rw [idxL_get hk] at hx; cases hx
    have e1 : idxL t = (idxL t).take k ++ ((k : Int) :: (idxL t).drop (k + 1)) := by rw [← hd, List.take_append_drop]
    unfold wetL
    conv => lhs; rw [e1]
    rw [List.filter_append, List.filter_cons_of_pos (by simpa using h)]
  unfold wetN
  rw [e, List.getElem?_append_right (Nat.le_refl _)]
  simp
theorem slot_of {t : Task} {now : Int} {L : List Slot} (h : InTime t now L) {k : Nat} (hk : k < t.towns.length) (hw : 0 < (arr t (k : Int)).2) : ∃ s, L[wetN t k]? = some s ∧ s.town = (k : Int) := by
  have := wetN_at hk hw
  rw [← h.towns, List.getElem?_map] at this
  obtain ⟨s, hs, e⟩ := Option.map_eq_some_iff.1 this
  exact ⟨s, hs, e⟩
theorem slot_len {t : Task} {now : Int} {L : List Slot} (h : InTime t now L) : L.length = (wetL t).length := by rw [← h.towns, List.length_map]
theorem slot_mem {t : Task} {now : Int} {L : List Slot} (h : InTime t now L) {s : Slot} (hs : s ∈ L) : 0 ≤ s.town ∧ s.town < t.towns.length := by
  have : s.town ∈ wetL t := by rw [← h.towns]; exact List.mem_map_of_mem hs
  exact idxL_mem (List.mem_filter.1 this).1
theorem arr_wet {t : Task} {i : Int} {k : Nat} {l : List Int} (hl : t.floods[k]? = some l) (h : 0 ≤ fld (twn t i) l) : 0 < (arr t i).2 ∧ (arr t i).1.lo ≤ fld (twn t i) l + (twn t i).travel := by
  have hk := (List.getElem?_eq_some_iff.1 hl).1
  obtain ⟨h0, h1, h2⟩ := arrP_spec t (twn t i) t.floods.length (Nat.le_refl _)
  rw [arrP_end] at h0 h1 h2
  refine ⟨?_, h2 k l hk hl h⟩
  by_cases e : (arrF t (twn t i)).2 = 0
  · exact absurd (h1.1 e k l hk hl) (by omega)
  · show 0 < (arrF t (twn t i)).2
    omega
theorem comes_skip {t : Task} {x : Town} {k : Nat} {l : List Int} (hl : t.floods[k]? = some l) (h : fld x l < 0) : (arrP t x (k + 1)).2 = (arrP t x k).2 := by
  rw [arrP_succ hl]
  show (if fld x l < 0 then arrP t x k else _).2 = _
  rw [if_pos h]
theorem comes_hit {t : Task} {x : Town} {k : Nat} {l : List Int} (hl : t.floods[k]? = some l) (h : ¬ fld x l < 0) : 0 < (arrP t x (k + 1)).2 := by
  have hk := (List.getElem?_eq_some_iff.1 hl).1
  obtain ⟨h0, h1, -⟩ := arrP_spec t x (k + 1) (by omega)
  by_cases e : (arrP t x (k + 1)).2 = 0
  · exact absurd (h1.1 e k l (by omega) hl) h
  · omega
theorem plan_now {t : Task} {now : Int} (h : (planR t now).2 = 0) : 0 ≤ now ∧ now ≤ 200000 := by
  unfold planR at h
  split at h
  next h1 => exact absurd h h1
  next h1 => exact (atE_ok (Decidable.not_not.1 h1)).2
end Bx
/- part Aw26 -/
namespace Go.Proofs.YtmoilbakmlekbaaGreatDoor
open Go Bx
set_option maxHeartbeats 4000000 in
/-- barrage/barragelaw11.AlarmInTime -/
theorem w_AlarmInTime {t : Task} {cs : List Value} {now : Int} {w0 : World} (hg : Glb w0) (h : RTask w0 cs t) (_ : I64 now) : CV Tryz.prog 3 #[.agg cs.toArray, .int .i64 now] w0 (.bool true) := by
  obtain ⟨hv, nv, fv, rfl, hpol, hsh, hsn, hsf⟩ := id h
  obtain ⟨a1, cap1, rfl, hcap1, hmx1, hel1⟩ := id hsh
  obtain ⟨a2, cap2, rfl, hcap2, hmx2, hel2⟩ := id hsn
  obtain ⟨a3, cap3, rfl, hcap3, hmx3, hel3⟩ := id hsf
  obtain ⟨L, e0, hpl⟩ : ∃ L e, planR t now = (L, e) := ⟨_, _, rfl⟩
  have hint : e0 = 0 → TaskOk t ∧ InTime t now L := fun h => by
    have hh := plan_intime (t := t) (now := now) (by rw [hpl]; exact h)
    rw [hpl] at hh
    exact hh
  have hnow : e0 = 0 → 0 ≤ now ∧ now ≤ 200000 := fun h => plan_now (t := t) (by rw [hpl]; exact h)
  refine enter Tryz.func3 rfl Tryz.ntmps3 rfl ?_
  have hS := St.start w0
  refine seq ?_
  refine region ?_
  refine sbox hS rfl rfl ?_; clear hS; intro b2 w hS
  refine sv (yAsg rfl) ?_
  refine nil ?_
  show Code.wp _ _ _ _ _
  refine seq ?_
  refine region ?_
  refine sv (yLdBA rfl Tryz.isAgg26 Tryz.sizeOf26 (hS.at _) rfl rfl) ?_
  refine sv (yMove rfl) ?_
  refine scall Tryz.call18 (.cons rfl (.cons rfl .nil)) (c_Plan (hg.ext hS.ext) (h.ext hS.ext)) ?_
  rw [hpl]
  rintro _ w ⟨pv, rfl, hM⟩; replace hS := hS.call1 hM; clear hM
  replace hS : StX [] w0 w [rowI pv 38 3 L.length (L.flatMap slotC), blk b2 [.int .i64 t.polders, .slice a1 t.chans.length cap1, .slice a2 t.towns.length cap2, .slice a3 t.floods.length cap3] 26] := hS
  refine sv (yMove rfl) ?_
  refine sv (yExt rfl rfl) ?_
  refine sv (yExt rfl rfl) ?_
  refine sv (yAsg rfl) ?_
  refine sv (yAsg rfl) ?_
  refine nil ?_
  show Code.wp _ _ _ _ _
  refine seq ?_
  refine region ?_
  refine sv (yLdBA rfl Tryz.isAgg26 Tryz.sizeOf26 (hS.at _) rfl rfl) ?_
  refine scall Tryz.call19 (.cons rfl .nil) (c_CheckA (hg.ext hS.ext) (h.ext hS.ext)) ?_
  rintro _ w ⟨rfl, hE⟩; replace hS := hS.step hE; clear hE
  refine sv (yMove rfl) ?_
  refine sv (yExt rfl rfl) ?_
  refine sv (yExt rfl rfl) ?_
  refine sv (yExt rfl rfl) ?_
  refine sv (yAsg rfl) ?_
  refine sv (yAsg rfl) ?_
  refine sv (yAsg rfl) ?_
  refine nil ?_
  show Code.wp _ _ _ _ _
  refine seq ?_
  refine seq ?_
  refine region ?_
  refine sv (yMove rfl) ?_
  refine sv (yNeq rfl rfl) ?_
  refine sv (yMove rfl) ?_
  refine sg rfl rfl rfl (fun g => (yMove rfl)) (fun v33 g33 => ?_)
  refine sg rfl rfl rfl (fun g => (yNeq (g33.1 g) rfl)) (fun v34 g34 => ?_)
  refine sv (yOr rfl rfl (fun hB => (g34.1 hB))) ?_
  refine nil ?_
  show Code.wp _ _ _ _ _
  refine cond rfl (fun c35 => ?_) (fun c35 => ?_)
  ·
    simp only [Bool.and_eq_true, Bool.or_eq_true, Bool.and_eq_false_iff, Bool.or_eq_false_iff, decide_eq_true_eq, decide_eq_false_iff_not, Bool.not_eq_true, Bool.not_eq_false, Bool.not_not, Bool.not_eq_eq_eq_not, Bool.not_true, Bool.not_false, Bool.false_eq_true, Bool.true_eq_false, ne_eq, Decidable.not_not, not_false_eq_true, not_true_eq_false] at c35
    refine seq ?_
    refine region ?_
    refine scall Tryz.call20 .nil (c_Awake (hg.ext hS.ext)) ?_
    rintro _ w ⟨rfl, hE⟩; replace hS := hS.step hE; clear hE
    refine sv (yAsg rfl) ?_
    refine nil ?_
    show Code.wp _ _ _ _ _
    refine wp_ret (thenR ?_)
    exact retV (res1 rfl rfl) hS.ext
  ·
    simp only [Bool.and_eq_true, Bool.or_eq_true, Bool.and_eq_false_iff, Bool.or_eq_false_iff, decide_eq_true_eq, decide_eq_false_iff_not, Bool.not_eq_true, Bool.not_eq_false, Bool.not_not, Bool.not_eq_eq_eq_not, Bool.not_true, Bool.not_false, Bool.false_eq_true, Bool.true_eq_false, ne_eq, Decidable.not_not, not_false_eq_true, not_true_eq_false] at c35
    obtain ⟨hok, hit⟩ := hint (by omega)
    obtain ⟨hn0, hn1⟩ := hnow (by omega)
    obtain ⟨al, cl, rfl⟩ := row_shape (hS.row pv)
    have hn8 := hok.ntw
    have hf8 := hok.nfl
    have hLl := slot_len hit
    have hwl := wetL_len t
    have s2 := hsn
    refine skip ?_
    show Code.wp _ _ _ _ _
    refine seq ?_
    refine region ?_
    refine sv (yAsg rfl) ?_
    refine nil ?_
    show Code.wp _ _ _ _ _
    refine seq ?_
    refine seq ?_
    refine region ?_
    refine sv (yAsg rfl) ?_
    refine nil ?_
    show Code.wp _ _ _ _ _
    refine block ?_
    refine loop (fun f w zz => ∃ (i : Nat), f 1 = .int .i64 now ∧ f 2 = .pointer (some ⟨b2, 0, none⟩) ∧ f 5 = .slice al L.length cl ∧ f 10 = .int .i64 (wetN t i : Int) ∧ f 11 = .int .i64 (i : Int) ∧ StX [] w0 w [rowI (.slice al L.length cl) 38 3 L.length (L.flatMap slotC), blk b2 [.int .i64 t.polders, .slice a1 t.chans.length cap1, .slice a2 t.towns.length cap2, .slice a3 t.floods.length cap3] 26] ∧ (i ≤ t.towns.length) ∧ zz = t.towns.length - i) _ ⟨_, rfl, 0, rfl, rfl, rfl, rfl, rfl, hS, (Nat.zero_le _), rfl⟩ ?_
    clear hS
    rintro f w _ ⟨i, h1, h2, h5, h10, h11, hS, hi, rfl⟩
    refine seq ?_
    refine seq ?_
    refine region ?_
    refine sv (yMove h11) ?_
    refine sv (fa26_2 h2) ?_
    refine sv (yLdB rfl Tryz.isAgg23 (hS.at _) rfl) ?_
    refine sv (yLen rfl Tryz.underlying23) ?_
    refine sv (yLss rfl rfl) ?_
    refine nil ?_
    show Code.wp _ _ _ _ _
    refine cond rfl (fun c41 => ?_) (fun c41 => ?_)
    ·
      simp only [Bool.and_eq_true, Bool.or_eq_true, Bool.and_eq_false_iff, Bool.or_eq_false_iff, decide_eq_true_eq, decide_eq_false_iff_not, Bool.not_eq_true, Bool.not_eq_false, Bool.not_not, Bool.not_eq_eq_eq_not, Bool.not_true, Bool.not_false, Bool.false_eq_true, Bool.true_eq_false, ne_eq, Decidable.not_not, not_false_eq_true, not_true_eq_false] at c41
      have hkn : i < t.towns.length := by omega
      have hib : 0 ≤ (i : Int) ∧ (i : Int) < t.towns.length := by omega
      obtain ⟨bt, ot, cst, hat, hlt, hcst, hRt, -⟩ := sl_at s2 (twn_i (t := t) hib)
      obtain ⟨dvt, rfl, -, -, -, -, hslt, -⟩ := hRt
      have hto := town_ok hok hib
      have htl := hto.lead
      obtain ⟨ak, ck, rfl, -⟩ := id hslt
      have htp := hto.pol
      have htr := hto.travel
      have hwn : wetN t i ≤ i := Nat.le_trans (List.length_filter_le _ _) (by simp; omega)
      refine skip ?_
      show Code.wp _ _ _ _ _
      refine seq ?_
      refine block ?_
      refine seq ?_
      refine region ?_
      refine sv (fa26_2 h2) ?_
      refine sv (yLdB rfl Tryz.isAgg23 (hS.at _) rfl) ?_
      refine sv (yMove h11) ?_
      refine sv (yIxa rfl hat rfl Tryz.runUnderlying23 Tryz.sizeOf36 (by omega) (by omega)) ?_
      refine sv (yLdA rfl Tryz.isAgg36 Tryz.sizeOf36 (hcst.ext hS.ext) rfl) ?_
      refine salloc hS Tryz.zeroValue36 rfl ?_; clear hS; intro b12 w hS
      refine sst hS rfl rfl Tryz.sizeOf36 rfl rfl rfl rfl ?_; clear hS; intro w hS
      refine nil ?_
      show Code.wp _ _ _ _ _
      refine seq ?_
      refine region ?_
      refine sv (yAsg rfl) ?_
      refine nil ?_
      show Code.wp _ _ _ _ _
      refine seq ?_
      refine seq ?_
      refine region ?_
      refine sv (yAsg rfl) ?_
      refine nil ?_
      show Code.wp _ _ _ _ _
      refine block ?_
      refine loop (fun f w zz => ∃ (k : Nat), f 1 = .int .i64 now ∧ f 2 = .pointer (some ⟨b2, 0, none⟩) ∧ f 5 = .slice al L.length cl ∧ f 10 = .int .i64 (wetN t i : Int) ∧ f 11 = .int .i64 (i : Int) ∧ f 12 = .pointer (some ⟨b12, 0, none⟩) ∧ f 13 = .bool (decide ((arrP t (twn t (i : Int)) k).2 ≠ 0)) ∧ f 14 = .int .i64 (k : Int) ∧ StX [] w0 w [blk b12 [.string (twn t (i : Int)).name, .int .i64 (twn t (i : Int)).polder, .int .i64 (twn t (i : Int)).travel, .int .i64 (twn t (i : Int)).lead, .slice ak (twn t (i : Int)).chans.length ck] 36, rowI (.slice al L.length cl) 38 3 L.length (L.flatMap slotC), blk b2 [.int .i64 t.polders, .slice a1 t.chans.length cap1, .slice a2 t.towns.length cap2, .slice a3 t.floods.length cap3] 26] ∧ (k ≤ t.floods.length) ∧ zz = t.floods.length - k) _ ⟨_, rfl, 0, h1, h2, h5, h10, h11, rfl, rfl, rfl, hS, (Nat.zero_le _), rfl⟩ ?_
      clear hS
      rintro f w _ ⟨k, h1, h2, h5, h10, h11, h12, h13, h14, hS, hk, rfl⟩
      refine seq ?_
      refine seq ?_
      refine region ?_
      refine sv (yMove h14) ?_
      refine sv (fa26_3 h2) ?_
      refine sv (yLdB rfl Tryz.isAgg24 (hS.at _) rfl) ?_
      refine sv (yLen rfl Tryz.underlying24) ?_
      refine sv (yLss rfl rfl) ?_
      refine nil ?_
      show Code.wp _ _ _ _ _
      refine cond rfl (fun c53 => ?_) (fun c53 => ?_)
      ·
        simp only [Bool.and_eq_true, Bool.or_eq_true, Bool.and_eq_false_iff, Bool.or_eq_false_iff, decide_eq_true_eq, decide_eq_false_iff_not, Bool.not_eq_true, Bool.not_eq_false, Bool.not_not, Bool.not_eq_eq_eq_not, Bool.not_true, Bool.not_false, Bool.false_eq_true, Bool.true_eq_false, ne_eq, Decidable.not_not, not_false_eq_true, not_true_eq_false] at c53
        obtain ⟨l, hxl, hdl⟩ := drop_of (l := t.floods) (k := k) (by omega)
        obtain ⟨bl, ol, csl, hal, hlenl, hcsl, hRl⟩ := hel3 (k) (by omega)
        obtain rfl : l = t.floods[k] := (List.getElem?_eq_some_iff.1 hxl).2.symm
        generalize t.floods[k] = l at hxl hdl hRl
        have hR1 := hRl
        obtain ⟨lv, rfl, hsl⟩ := id hR1
        obtain ⟨a6, cl2, rfl, hlcap, hlmx, hlel⟩ := id hsl
        have hfl := hok.flood l (List.mem_of_getElem? hxl)
        obtain ⟨bp, op, csp, hap, hlp, hcsp, hRp⟩ := hlel (twn t (i : Int)).polder.toNat (by omega)
        obtain ⟨rfl, hip⟩ := hRp
        have hvx : l[(twn t (i : Int)).polder.toNat] = fld (twn t (i : Int)) l := by unfold fld; simp [List.getD, show (twn t (i : Int)).polder.toNat < l.length by omega]
        have hvb := (hfl.2 _ (List.getElem_mem (show (twn t (i : Int)).polder.toNat < l.length by omega)))
        rw [hvx] at hcsp hip hvb
        refine skip ?_
        show Code.wp _ _ _ _ _
        refine seq ?_
        refine block ?_
        refine seq ?_
        refine seq ?_
        refine region_draw mixed (by kernel_rfl) hS ?_
        refine qv (fun w hS => (fa36_1 h12)) ?_
        refine qv (fun w hS => (yLdB rfl Tryz.isAgg3 (hS.at _) rfl)) ?_
        refine qv (fun w hS => (yLss rfl rfl)) ?_
        refine qv (fun w hS => (yMove rfl)) ?_
        refine qg rfl rfl rfl (fun g w hS => (fa36_1 h12)) (fun v60 g60 => ?_)
        refine qg rfl rfl rfl (fun g w hS => (yLdB (g60.1 g) Tryz.isAgg3 (hS.at _) rfl)) (fun v61 g61 => ?_)
        refine qg rfl rfl rfl (fun g w hS => (fa26_3 h2)) (fun v62 g62 => ?_)
        refine qg rfl rfl rfl (fun g w hS => (yLdB (g62.1 g) Tryz.isAgg24 (hS.at _) rfl)) (fun v63 g63 => ?_)
        refine qg rfl rfl rfl (fun g w hS => (yMove h14)) (fun v64 g64 => ?_)
        refine qg rfl rfl rfl (fun g w hS => (yIxa (g63.1 g) hal (g64.1 g) Tryz.runUnderlying24 Tryz.sizeOf34 (by omega) (by omega))) (fun v65 g65 => ?_)
        refine qg rfl rfl rfl (fun g w hS => (yLd (g65.1 g) Tryz.isAgg34 ((hcsl.ext hS.ext).one))) (fun v66 g66 => ?_)
        refine qg rfl rfl rfl (fun g w hS => (yLen (g66.1 g) Tryz.underlying34)) (fun v67 g67 => ?_)
        refine qg rfl rfl rfl (fun g w hS => (yGeq (g61.1 g) (g67.1 g))) (fun v68 g68 => ?_)
        refine qv (fun w hS => (yOr rfl rfl (fun hB => (g68.1 hB)))) ?_
        refine qv (fun w hS => (yMove rfl)) ?_
        refine qg rfl rfl rfl (fun g w hS => (fa26_3 h2)) (fun v71 g71 => ?_)
        refine qg rfl rfl rfl (fun g w hS => (yLdB (g71.1 g) Tryz.isAgg24 (hS.at _) rfl)) (fun v72 g72 => ?_)
        refine qg rfl rfl rfl (fun g w hS => (yMove h14)) (fun v73 g73 => ?_)
        refine qg rfl rfl rfl (fun g w hS => (yIxa (g72.1 g) hal (g73.1 g) Tryz.runUnderlying24 Tryz.sizeOf34 (by omega) (by omega))) (fun v74 g74 => ?_)
        refine qg rfl rfl rfl (fun g w hS => (yLd (g74.1 g) Tryz.isAgg34 ((hcsl.ext hS.ext).one))) (fun v75 g75 => ?_)
        refine qg rfl rfl rfl (fun g w hS => (fa36_1 h12)) (fun v76 g76 => ?_)
        refine qg rfl rfl rfl (fun g w hS => (yLdB (g76.1 g) Tryz.isAgg3 (hS.at _) rfl)) (fun v77 g77 => ?_)
        refine qg rfl rfl rfl (fun g w hS => (yIxa (g75.1 g) hap (g77.1 g) Tryz.runUnderlying34 Tryz.sizeOf3 (by omega) (by omega))) (fun v78 g78 => ?_)
        refine qg rfl rfl rfl (fun g w hS => (yLd (g78.1 g) Tryz.isAgg3 ((hcsp.ext hS.ext).one))) (fun v79 g79 => ?_)
        refine qg rfl rfl rfl (fun g w hS => (yLss (g79.1 g) rfl)) (fun v80 g80 => ?_)
        refine qv (fun w hS => (yOr rfl rfl (fun hB => (g80.1 hB)))) ?_
        clear hS; refine qnil (fun w hS => ?_)
        show Code.wp _ _ _ _ _
        refine cond rfl (fun c81 => ?_) (fun c81 => ?_)
        ·
          simp only [Bool.and_eq_true, Bool.or_eq_true, Bool.and_eq_false_iff, Bool.or_eq_false_iff, decide_eq_true_eq, decide_eq_false_iff_not, Bool.not_eq_true, Bool.not_eq_false, Bool.not_not, Bool.not_eq_eq_eq_not, Bool.not_true, Bool.not_false, Bool.false_eq_true, Bool.true_eq_false, ne_eq, Decidable.not_not, not_false_eq_true, not_true_eq_false] at c81
          have hfs : fld (twn t (i : Int)) l < 0 := by omega
          refine exit ?_
          show Code.wp _ _ _ _ _
          refine region ?_
          refine sv (yMove h14) ?_
          refine sv (yAdd rfl rfl ⟨by omega, by omega⟩) ?_
          refine sv (yAsg rfl) ?_
          refine nil ?_
          exact ⟨_, _, rfl, ⟨k + 1, h1, h2, h5, h10, h11, h12, (h13.trans (congrArg Value.bool (by rw [comes_skip hxl hfs]))), rfl, hS, (by omega), rfl⟩, by omega⟩
        ·
          simp only [Bool.and_eq_true, Bool.or_eq_true, Bool.and_eq_false_iff, Bool.or_eq_false_iff, decide_eq_true_eq, decide_eq_false_iff_not, Bool.not_eq_true, Bool.not_eq_false, Bool.not_not, Bool.not_eq_eq_eq_not, Bool.not_true, Bool.not_false, Bool.false_eq_true, Bool.true_eq_false, ne_eq, Decidable.not_not, not_false_eq_true, not_true_eq_false] at c81
          have hfn : ¬ fld (twn t (i : Int)) l < 0 := by omega
          have hwet := arr_wet (i := (i : Int)) hxl (by omega)
          obtain ⟨q, hq, hqt⟩ := slot_of hit hkn hwet.1
          have hqm := List.mem_of_getElem? hq
          have hql := (List.getElem?_eq_some_iff.1 hq).1
          obtain ⟨hqc, hqn, hqs⟩ := hit.fits q hqm
          rw [hqt] at hqc hqs
          have hqb := hto.chans q.channel hqc
          obtain ⟨gl, hae, -⟩ := row_get (hS.row (.slice al L.length cl)) (by omega)
          obtain ⟨bc, oc, csc, hac, hlc, hcsc, hRc, -⟩ := sl_at hsh (chn_i (t := t) hqb)
          obtain ⟨rfl, -⟩ := hRc
          have hqd := (chan_ok hok hqb).1
          have hlat : latestF t (i : Int) q.channel = min 200000 ((arr t (i : Int)).1.lo - (twn t (i : Int)).lead - (chn t q.channel).delay) := rfl
          have hab := arr_bd hok hib
          refine skip ?_
          show Code.wp _ _ _ _ _
          refine seq ?_
          refine region ?_
          refine sv (yAsg rfl) ?_
          refine nil ?_
          show Code.wp _ _ _ _ _
          refine seq ?_
          refine seq ?_
          refine region_draw mixed (by kernel_rfl) hS ?_
          refine qv (fun w hS => (yMove h10)) ?_
          refine qv (fun w hS => (yMove h5)) ?_
          refine qv (fun w hS => (yLen rfl Tryz.underlying27)) ?_
          refine qv (fun w hS => (yGeq rfl rfl)) ?_
          refine qv (fun w hS => (yMove rfl)) ?_
          refine qg rfl rfl rfl (fun g w hS => (yMove h5)) (fun v87 g87 => ?_)
          refine qg rfl rfl rfl (fun g w hS => (yMove h10)) (fun v88 g88 => ?_)
          refine qg rfl rfl rfl (fun g w hS => (yIxa (g87.1 g) hae (g88.1 g) Tryz.runUnderlying27 Tryz.sizeOf38 (by omega) (by omega))) (fun v89 g89 => ?_)
          refine qg rfl rfl rfl (fun g w hS => (fa38_0 (g89.1 g))) (fun v90 g90 => ?_)
          refine qg rfl rfl rfl (fun g w hS => (yLd (g90.1 g) Tryz.isAgg3 ((flat_cells slotC_len (row_at (hS.row (.slice al L.length cl)) hae (by omega)) hq).at (j := 0) rfl))) (fun v91 g91 => ?_)
          refine qg rfl rfl rfl (fun g w hS => (yMove h11)) (fun v92 g92 => ?_)
          refine qg rfl rfl rfl (fun g w hS => (yNeq (g91.1 g) (g92.1 g))) (fun v93 g93 => ?_)
          refine qv (fun w hS => (yOr rfl rfl (fun hB => (g93.1 hB)))) ?_
          refine qv (fun w hS => (yMove rfl)) ?_
          refine qg rfl rfl rfl (fun g w hS => (yMove h5)) (fun v96 g96 => ?_)
          refine qg rfl rfl rfl (fun g w hS => (yMove h10)) (fun v97 g97 => ?_)
          refine qg rfl rfl rfl (fun g w hS => (yIxa (g96.1 g) hae (g97.1 g) Tryz.runUnderlying27 Tryz.sizeOf38 (by omega) (by omega))) (fun v98 g98 => ?_)
          refine qg rfl rfl rfl (fun g w hS => (fa38_2 (g98.1 g))) (fun v99 g99 => ?_)
          refine qg rfl rfl rfl (fun g w hS => (yLd (g99.1 g) Tryz.isAgg3 ((flat_cells slotC_len (row_at (hS.row (.slice al L.length cl)) hae (by omega)) hq).at (j := 2) rfl))) (fun v100 g100 => ?_)
          refine qg rfl rfl rfl (fun g w hS => (yMove h1)) (fun v101 g101 => ?_)
          refine qg rfl rfl rfl (fun g w hS => (yLss (g100.1 g) (g101.1 g))) (fun v102 g102 => ?_)
          refine qv (fun w hS => (yOr rfl rfl (fun hB => (g102.1 hB)))) ?_
          refine qv (fun w hS => (yMove rfl)) ?_
          refine qg rfl rfl rfl (fun g w hS => (yMove h5)) (fun v105 g105 => ?_)
          refine qg rfl rfl rfl (fun g w hS => (yMove h10)) (fun v106 g106 => ?_)
          refine qg rfl rfl rfl (fun g w hS => (yIxa (g105.1 g) hae (g106.1 g) Tryz.runUnderlying27 Tryz.sizeOf38 (by omega) (by omega))) (fun v107 g107 => ?_)
          refine qg rfl rfl rfl (fun g w hS => (fa38_2 (g107.1 g))) (fun v108 g108 => ?_)
          refine qg rfl rfl rfl (fun g w hS => (yLd (g108.1 g) Tryz.isAgg3 ((flat_cells slotC_len (row_at (hS.row (.slice al L.length cl)) hae (by omega)) hq).at (j := 2) rfl))) (fun v109 g109 => ?_)
          refine qg rfl rfl rfl (fun g w hS => (yGtr (g109.1 g) rfl)) (fun v110 g110 => ?_)
          refine qv (fun w hS => (yOr rfl rfl (fun hB => (g110.1 hB)))) ?_
          refine qv (fun w hS => (yMove rfl)) ?_
          refine qg rfl rfl rfl (fun g w hS => (fa36_4 h12)) (fun v113 g113 => ?_)
          refine qg rfl rfl rfl (fun g w hS => (yLdB (g113.1 g) Tryz.isAgg34 (hS.at _) rfl)) (fun v114 g114 => ?_)
          refine qg rfl rfl rfl (fun g w hS => (yMove h5)) (fun v115 g115 => ?_)
          refine qg rfl rfl rfl (fun g w hS => (yMove h10)) (fun v116 g116 => ?_)
          refine qg rfl rfl rfl (fun g w hS => (yIxa (g115.1 g) hae (g116.1 g) Tryz.runUnderlying27 Tryz.sizeOf38 (by omega) (by omega))) (fun v117 g117 => ?_)
          refine qg rfl rfl rfl (fun g w hS => (fa38_1 (g117.1 g))) (fun v118 g118 => ?_)
          refine qg rfl rfl rfl (fun g w hS => (yLd (g118.1 g) Tryz.isAgg3 ((flat_cells slotC_len (row_at (hS.row (.slice al L.length cl)) hae (by omega)) hq).at (j := 1) rfl))) (fun v119 g119 => ?_)
          refine qgc rfl rfl rfl Tryz.call21 (fun g => (.cons (g114.1 g) (.cons (g119.1 g) .nil))) (fun g w hS => (c_has (hslt.ext RInt.stays hS.ext))) (fun v120 g120 => ?_)
          refine qg rfl rfl rfl (fun g w hS => (yNot (g120.1 g))) (fun v121 g121 => ?_)
          refine qv (fun w hS => (yOr rfl rfl (fun hB => (g121.1 hB)))) ?_
          refine qv (fun w hS => (yMove rfl)) ?_
          refine qg rfl rfl rfl (fun g w hS => (yMove h5)) (fun v124 g124 => ?_)
          refine qg rfl rfl rfl (fun g w hS => (yMove h10)) (fun v125 g125 => ?_)
          refine qg rfl rfl rfl (fun g w hS => (yIxa (g124.1 g) hae (g125.1 g) Tryz.runUnderlying27 Tryz.sizeOf38 (by omega) (by omega))) (fun v126 g126 => ?_)
          refine qg rfl rfl rfl (fun g w hS => (fa38_1 (g126.1 g))) (fun v127 g127 => ?_)
          refine qg rfl rfl rfl (fun g w hS => (yLd (g127.1 g) Tryz.isAgg3 ((flat_cells slotC_len (row_at (hS.row (.slice al L.length cl)) hae (by omega)) hq).at (j := 1) rfl))) (fun v128 g128 => ?_)
          refine qg rfl rfl rfl (fun g w hS => (yLss (g128.1 g) rfl)) (fun v129 g129 => ?_)
          refine qv (fun w hS => (yOr rfl rfl (fun hB => (g129.1 hB)))) ?_
          refine qv (fun w hS => (yMove rfl)) ?_
          refine qg rfl rfl rfl (fun g w hS => (yMove h5)) (fun v132 g132 => ?_)
          refine qg rfl rfl rfl (fun g w hS => (yMove h10)) (fun v133 g133 => ?_)
          refine qg rfl rfl rfl (fun g w hS => (yIxa (g132.1 g) hae (g133.1 g) Tryz.runUnderlying27 Tryz.sizeOf38 (by omega) (by omega))) (fun v134 g134 => ?_)
          refine qg rfl rfl rfl (fun g w hS => (fa38_1 (g134.1 g))) (fun v135 g135 => ?_)
          refine qg rfl rfl rfl (fun g w hS => (yLd (g135.1 g) Tryz.isAgg3 ((flat_cells slotC_len (row_at (hS.row (.slice al L.length cl)) hae (by omega)) hq).at (j := 1) rfl))) (fun v136 g136 => ?_)
          refine qg rfl rfl rfl (fun g w hS => (fa26_1 h2)) (fun v137 g137 => ?_)
          refine qg rfl rfl rfl (fun g w hS => (yLdB (g137.1 g) Tryz.isAgg22 (hS.at _) rfl)) (fun v138 g138 => ?_)
          refine qg rfl rfl rfl (fun g w hS => (yLen (g138.1 g) Tryz.underlying22)) (fun v139 g139 => ?_)
          refine qg rfl rfl rfl (fun g w hS => (yGeq (g136.1 g) (g139.1 g))) (fun v140 g140 => ?_)
          refine qv (fun w hS => (yOr rfl rfl (fun hB => (g140.1 hB)))) ?_
          clear hS; refine qnil (fun w hS => ?_)
          show Code.wp _ _ _ _ _
          refine cond rfl (fun c141 => ?_) (fun c141 => ?_)
          ·
            simp only [Bool.and_eq_true, Bool.or_eq_true, Bool.and_eq_false_iff, Bool.or_eq_false_iff, decide_eq_true_eq, decide_eq_false_iff_not, Bool.not_eq_true, Bool.not_eq_false, Bool.not_not, Bool.not_eq_eq_eq_not, Bool.not_true, Bool.not_false, Bool.false_eq_true, Bool.true_eq_false, ne_eq, Decidable.not_not, not_false_eq_true, not_true_eq_false] at c141
            exfalso
            rcases c141 with (((((c | c) | c) | c) | c) | c) | c <;> first | omega | exact absurd hqc (by simpa using c)
          ·
            simp only [Bool.and_eq_true, Bool.or_eq_true, Bool.and_eq_false_iff, Bool.or_eq_false_iff, decide_eq_true_eq, decide_eq_false_iff_not, Bool.not_eq_true, Bool.not_eq_false, Bool.not_not, Bool.not_eq_eq_eq_not, Bool.not_true, Bool.not_false, Bool.false_eq_true, Bool.true_eq_false, ne_eq, Decidable.not_not, not_false_eq_true, not_true_eq_false] at c141
            refine skip ?_
            show Code.wp _ _ _ _ _
            refine seq ?_
            refine region_draw mixed (by kernel_rfl) hS ?_
            refine qv (fun w hS => (yMove h5)) ?_
            refine qv (fun w hS => (yMove h10)) ?_
            refine qv (fun w hS => (yIxa rfl hae rfl Tryz.runUnderlying27 Tryz.sizeOf38 (by omega) (by omega))) ?_
            refine qv (fun w hS => (fa38_2 rfl)) ?_
            refine qv (fun w hS => (yLd rfl Tryz.isAgg3 ((flat_cells slotC_len (row_at (hS.row (.slice al L.length cl)) hae (by omega)) hq).at (j := 2) rfl))) ?_
            refine qv (fun w hS => (fa26_1 h2)) ?_
            refine qv (fun w hS => (yLdB rfl Tryz.isAgg22 (hS.at _) rfl)) ?_
            refine qv (fun w hS => (yMove h5)) ?_
            refine qv (fun w hS => (yMove h10)) ?_
            refine qv (fun w hS => (yIxa rfl hae rfl Tryz.runUnderlying27 Tryz.sizeOf38 (by omega) (by omega))) ?_
            refine qv (fun w hS => (fa38_1 rfl)) ?_
            refine qv (fun w hS => (yLd rfl Tryz.isAgg3 ((flat_cells slotC_len (row_at (hS.row (.slice al L.length cl)) hae (by omega)) hq).at (j := 1) rfl))) ?_
            refine qv (fun w hS => (yIxa rfl hac rfl Tryz.runUnderlying22 Tryz.sizeOf41 (by omega) (by omega))) ?_
            refine qv (fun w hS => (fa41_1 rfl)) ?_
            refine qv (fun w hS => (yLd rfl Tryz.isAgg3 ((hcsc.ext hS.ext).at (j := 1) rfl))) ?_
            refine qv (fun w hS => (yAdd rfl rfl ⟨by omega, by omega⟩)) ?_
            refine qv (fun w hS => (fa36_3 h12)) ?_
            refine qv (fun w hS => (yLdB rfl Tryz.isAgg3 (hS.at _) rfl)) ?_
            refine qv (fun w hS => (yAdd rfl rfl ⟨by omega, by omega⟩)) ?_
            refine qv (fun w hS => (fa26_3 h2)) ?_
            refine qv (fun w hS => (yLdB rfl Tryz.isAgg24 (hS.at _) rfl)) ?_
            refine qv (fun w hS => (yMove h14)) ?_
            refine qv (fun w hS => (yIxa rfl hal rfl Tryz.runUnderlying24 Tryz.sizeOf34 (by omega) (by omega))) ?_
            refine qv (fun w hS => (yLd rfl Tryz.isAgg34 ((hcsl.ext hS.ext).one))) ?_
            refine qv (fun w hS => (fa36_1 h12)) ?_
            refine qv (fun w hS => (yLdB rfl Tryz.isAgg3 (hS.at _) rfl)) ?_
            refine qv (fun w hS => (yIxa rfl hap rfl Tryz.runUnderlying34 Tryz.sizeOf3 (by omega) (by omega))) ?_
            refine qv (fun w hS => (yLd rfl Tryz.isAgg3 ((hcsp.ext hS.ext).one))) ?_
            refine qv (fun w hS => (fa36_2 h12)) ?_
            refine qv (fun w hS => (yLdB rfl Tryz.isAgg3 (hS.at _) rfl)) ?_
            refine qv (fun w hS => (yAdd rfl rfl ⟨by omega, by omega⟩)) ?_
            refine qv (fun w hS => (yGtr rfl rfl)) ?_
            clear hS; refine qnil (fun w hS => ?_)
            show Code.wp _ _ _ _ _
            refine cond rfl (fun c173 => ?_) (fun c173 => ?_)
            ·
              simp only [Bool.and_eq_true, Bool.or_eq_true, Bool.and_eq_false_iff, Bool.or_eq_false_iff, decide_eq_true_eq, decide_eq_false_iff_not, Bool.not_eq_true, Bool.not_eq_false, Bool.not_not, Bool.not_eq_eq_eq_not, Bool.not_true, Bool.not_false, Bool.false_eq_true, Bool.true_eq_false, ne_eq, Decidable.not_not, not_false_eq_true, not_true_eq_false] at c173
              exfalso; have := hwet.2; omega
            ·
              simp only [Bool.and_eq_true, Bool.or_eq_true, Bool.and_eq_false_iff, Bool.or_eq_false_iff, decide_eq_true_eq, decide_eq_false_iff_not, Bool.not_eq_true, Bool.not_eq_false, Bool.not_not, Bool.not_eq_eq_eq_not, Bool.not_true, Bool.not_false, Bool.false_eq_true, Bool.true_eq_false, ne_eq, Decidable.not_not, not_false_eq_true, not_true_eq_false] at c173
              refine skip ?_
              show Code.wp _ _ _ _ _
              refine region ?_
              refine sv (yMove h14) ?_
              refine sv (yAdd rfl rfl ⟨by omega, by omega⟩) ?_
              refine sv (yAsg rfl) ?_
              refine nil ?_
              exact ⟨_, _, rfl, ⟨k + 1, h1, h2, h5, h10, h11, h12, (rfl.trans (congrArg Value.bool (decide_eq_true (by have := comes_hit hxl hfn; omega)).symm)), rfl, hS, (by omega), rfl⟩, by omega⟩
      ·
        simp only [Bool.and_eq_true, Bool.or_eq_true, Bool.and_eq_false_iff, Bool.or_eq_false_iff, decide_eq_true_eq, decide_eq_false_iff_not, Bool.not_eq_true, Bool.not_eq_false, Bool.not_not, Bool.not_eq_eq_eq_not, Bool.not_true, Bool.not_false, Bool.false_eq_true, Bool.true_eq_false, ne_eq, Decidable.not_not, not_false_eq_true, not_true_eq_false] at c53
        obtain rfl : k = t.floods.length := by omega
        rw [arrP_end] at h13
        refine exit ?_
        show Code.wp _ _ _ _ _
        refine seq ?_
        refine region ?_
        refine sv (yMove h13) ?_
        refine nil ?_
        show Code.wp _ _ _ _ _
        refine cond rfl (fun c174 => ?_) (fun c174 => ?_)
        ·
          have hwt : 0 < (arr t (i : Int)).2 := by have := of_decide_eq_true c174; have h3 := (arr_bd hok hib).2.2.1; show 0 < (arrF t (twn t (i : Int))).2; have h4 : 0 ≤ (arrF t (twn t (i : Int))).2 := h3; omega
          refine region ?_
          refine sv (yMove h10) ?_
          refine sv (yAdd rfl rfl ⟨by omega, by omega⟩) ?_
          refine sv (yAsg rfl) ?_
          refine nil ?_
          show Code.wp _ _ _ _ _
          refine region ?_
          refine sv (yMove h11) ?_
          refine sv (yAdd rfl rfl ⟨by omega, by omega⟩) ?_
          refine sv (yAsg rfl) ?_
          refine nil ?_
          exact ⟨_, _, rfl, ⟨i + 1, h1, h2, h5, (rfl.trans (congrArg (Value.int .i64) (by rw [wetN_in hkn hwt]; push_cast; omega))), rfl, (hS.sub (.cons _ (List.Sublist.refl _))), (by omega), rfl⟩, by omega⟩
        ·
          have hwt : ¬ 0 < (arr t (i : Int)).2 := by have h1 := of_decide_eq_false c174; intro h2; exact h1 (by show (arrF t (twn t (i : Int))).2 ≠ 0; have h3 : 0 < (arrF t (twn t (i : Int))).2 := h2; omega)
          refine skip ?_
          show Code.wp _ _ _ _ _
          refine region ?_
          refine sv (yMove h11) ?_
          refine sv (yAdd rfl rfl ⟨by omega, by omega⟩) ?_
          refine sv (yAsg rfl) ?_
          refine nil ?_
          exact ⟨_, _, rfl, ⟨i + 1, h1, h2, h5, (h10.trans (congrArg (Value.int .i64) (by rw [wetN_out hkn hwt]))), rfl, (hS.sub (.cons _ (List.Sublist.refl _))), (by omega), rfl⟩, by omega⟩
    ·
      simp only [Bool.and_eq_true, Bool.or_eq_true, Bool.and_eq_false_iff, Bool.or_eq_false_iff, decide_eq_true_eq, decide_eq_false_iff_not, Bool.not_eq_true, Bool.not_eq_false, Bool.not_not, Bool.not_eq_eq_eq_not, Bool.not_true, Bool.not_false, Bool.false_eq_true, Bool.true_eq_false, ne_eq, Decidable.not_not, not_false_eq_true, not_true_eq_false] at c41
      obtain rfl : i = t.towns.length := by omega
      rw [wetN_end, ← hLl] at h10
      refine exit ?_
      show Code.wp _ _ _ _ _
      refine seq ?_
      refine seq ?_
      refine region ?_
      refine sv (yMove h10) ?_
      refine sv (yMove h5) ?_
      refine sv (yLen rfl Tryz.underlying27) ?_
      refine sv (yNeq rfl rfl) ?_
      refine nil ?_
      show Code.wp _ _ _ _ _
      refine cond rfl (fun c180 => ?_) (fun c180 => ?_)
      ·
        simp only [Bool.and_eq_true, Bool.or_eq_true, Bool.and_eq_false_iff, Bool.or_eq_false_iff, decide_eq_true_eq, decide_eq_false_iff_not, Bool.not_eq_true, Bool.not_eq_false, Bool.not_not, Bool.not_eq_eq_eq_not, Bool.not_true, Bool.not_false, Bool.false_eq_true, Bool.true_eq_false, ne_eq, Decidable.not_not, not_false_eq_true, not_true_eq_false] at c180
        try (exfalso; omega)
      ·
        simp only [Bool.and_eq_true, Bool.or_eq_true, Bool.and_eq_false_iff, Bool.or_eq_false_iff, decide_eq_true_eq, decide_eq_false_iff_not, Bool.not_eq_true, Bool.not_eq_false, Bool.not_not, Bool.not_eq_eq_eq_not, Bool.not_true, Bool.not_false, Bool.false_eq_true, Bool.true_eq_false, ne_eq, Decidable.not_not, not_false_eq_true, not_true_eq_false] at c180
        refine skip ?_
        show Code.wp _ _ _ _ _
        refine seq ?_
        refine seq ?_
        refine region ?_
        refine sv (yAsg rfl) ?_
        refine nil ?_
        show Code.wp _ _ _ _ _
        refine block ?_
        refine loop (fun f w zz => ∃ (i : Nat), f 1 = .int .i64 now ∧ f 2 = .pointer (some ⟨b2, 0, none⟩) ∧ f 5 = .slice al L.length cl ∧ f 15 = .int .i64 (i : Int) ∧ StX [] w0 w [rowI (.slice al L.length cl) 38 3 L.length (L.flatMap slotC), blk b2 [.int .i64 t.polders, .slice a1 t.chans.length cap1, .slice a2 t.towns.length cap2, .slice a3 t.floods.length cap3] 26] ∧ (i ≤ L.length) ∧ zz = L.length - i) _ ⟨_, rfl, 0, h1, h2, h5, rfl, hS, (Nat.zero_le _), rfl⟩ ?_
        clear hS
        rintro f w _ ⟨i, h1, h2, h5, h15, hS, hi, rfl⟩
        refine seq ?_
        refine seq ?_
        refine region ?_
        refine sv (yMove h15) ?_
        refine sv (yMove h5) ?_
        refine sv (yLen rfl Tryz.underlying27) ?_
        refine sv (yLss rfl rfl) ?_
        refine nil ?_
        show Code.wp _ _ _ _ _
        refine cond rfl (fun c184 => ?_) (fun c184 => ?_)
        ·
          simp only [Bool.and_eq_true, Bool.or_eq_true, Bool.and_eq_false_iff, Bool.or_eq_false_iff, decide_eq_true_eq, decide_eq_false_iff_not, Bool.not_eq_true, Bool.not_eq_false, Bool.not_not, Bool.not_eq_eq_eq_not, Bool.not_true, Bool.not_false, Bool.false_eq_true, Bool.true_eq_false, ne_eq, Decidable.not_not, not_false_eq_true, not_true_eq_false] at c184
          obtain ⟨x, hx, -⟩ := drop_of (l := L) (k := i) (by omega)
          have hxm := List.mem_of_getElem? hx
          obtain ⟨gl, hae, -⟩ := row_get (hS.row (.slice al L.length cl)) (by omega)
          have hxc := chan_mem hok (hit.fits x hxm).1
          have hxr := hit.room x hxm
          obtain ⟨bc, oc, csc, hac, hlc, hcsc, hRc, -⟩ := sl_at hsh (chn_i (t := t) hxc)
          obtain ⟨rfl, -⟩ := hRc
          refine skip ?_
          show Code.wp _ _ _ _ _
          refine seq ?_
          refine block ?_
          refine seq ?_
          refine region ?_
          refine sv (yAsg rfl) ?_
          refine nil ?_
          show Code.wp _ _ _ _ _
          refine seq ?_
          refine seq ?_
          refine region ?_
          refine sv (yAsg rfl) ?_
          refine nil ?_
          show Code.wp _ _ _ _ _
          refine block ?_
          refine loop (fun f w zz => ∃ (k : Nat), f 1 = .int .i64 now ∧ f 2 = .pointer (some ⟨b2, 0, none⟩) ∧ f 5 = .slice al L.length cl ∧ f 15 = .int .i64 (i : Int) ∧ f 16 = .int .i64 (usedN (L.take k) x.pl : Int) ∧ f 17 = .int .i64 (k : Int) ∧ StX [] w0 w [rowI (.slice al L.length cl) 38 3 L.length (L.flatMap slotC), blk b2 [.int .i64 t.polders, .slice a1 t.chans.length cap1, .slice a2 t.towns.length cap2, .slice a3 t.floods.length cap3] 26] ∧ (k ≤ L.length) ∧ zz = L.length - k) _ ⟨_, rfl, 0, h1, h2, h5, h15, rfl, rfl, hS, (Nat.zero_le _), rfl⟩ ?_
          clear hS
          rintro f w _ ⟨k, h1, h2, h5, h15, h16, h17, hS, hk, rfl⟩
          refine seq ?_
          refine seq ?_
          refine region ?_
          refine sv (yMove h17) ?_
          refine sv (yMove h5) ?_
          refine sv (yLen rfl Tryz.underlying27) ?_
          refine sv (yLss rfl rfl) ?_
          refine nil ?_
          show Code.wp _ _ _ _ _
          refine cond rfl (fun c190 => ?_) (fun c190 => ?_)
          ·
            simp only [Bool.and_eq_true, Bool.or_eq_true, Bool.and_eq_false_iff, Bool.or_eq_false_iff, decide_eq_true_eq, decide_eq_false_iff_not, Bool.not_eq_true, Bool.not_eq_false, Bool.not_not, Bool.not_eq_eq_eq_not, Bool.not_true, Bool.not_false, Bool.false_eq_true, Bool.true_eq_false, ne_eq, Decidable.not_not, not_false_eq_true, not_true_eq_false] at c190
            obtain ⟨z, hz, -⟩ := drop_of (l := L) (k := k) (by omega)
            have hub : usedN (L.take k) x.pl ≤ k := Nat.le_trans (List.length_filter_le _ _) (by simp; omega)
            refine skip ?_
            show Code.wp _ _ _ _ _
            refine seq ?_
            refine block ?_
            refine seq ?_
            refine region_draw mixed (by kernel_rfl) hS ?_
            refine qv (fun w hS => (yMove h5)) ?_
            refine qv (fun w hS => (yMove h17)) ?_
            refine qv (fun w hS => (yIxa rfl hae rfl Tryz.runUnderlying27 Tryz.sizeOf38 (by omega) (by omega))) ?_
            refine qv (fun w hS => (fa38_1 rfl)) ?_
            refine qv (fun w hS => (yLd rfl Tryz.isAgg3 ((flat_cells slotC_len (row_at (hS.row (.slice al L.length cl)) hae (by omega)) hz).at (j := 1) rfl))) ?_
            refine qv (fun w hS => (yMove h5)) ?_
            refine qv (fun w hS => (yMove h15)) ?_
            refine qv (fun w hS => (yIxa rfl hae rfl Tryz.runUnderlying27 Tryz.sizeOf38 (by omega) (by omega))) ?_
            refine qv (fun w hS => (fa38_1 rfl)) ?_
            refine qv (fun w hS => (yLd rfl Tryz.isAgg3 ((flat_cells slotC_len (row_at (hS.row (.slice al L.length cl)) hae (by omega)) hx).at (j := 1) rfl))) ?_
            refine qv (fun w hS => (yEql rfl rfl)) ?_
            refine qv (fun w hS => (yMove rfl)) ?_
            refine qg rfl rfl rfl (fun g w hS => (yMove h5)) (fun v205 g205 => ?_)
            refine qg rfl rfl rfl (fun g w hS => (yMove h17)) (fun v206 g206 => ?_)
            refine qg rfl rfl rfl (fun g w hS => (yIxa (g205.1 g) hae (g206.1 g) Tryz.runUnderlying27 Tryz.sizeOf38 (by omega) (by omega))) (fun v207 g207 => ?_)
            refine qg rfl rfl rfl (fun g w hS => (fa38_2 (g207.1 g))) (fun v208 g208 => ?_)
            refine qg rfl rfl rfl (fun g w hS => (yLd (g208.1 g) Tryz.isAgg3 ((flat_cells slotC_len (row_at (hS.row (.slice al L.length cl)) hae (by omega)) hz).at (j := 2) rfl))) (fun v209 g209 => ?_)
            refine qg rfl rfl rfl (fun g w hS => (yMove h5)) (fun v210 g210 => ?_)
            refine qg rfl rfl rfl (fun g w hS => (yMove h15)) (fun v211 g211 => ?_)
            refine qg rfl rfl rfl (fun g w hS => (yIxa (g210.1 g) hae (g211.1 g) Tryz.runUnderlying27 Tryz.sizeOf38 (by omega) (by omega))) (fun v212 g212 => ?_)
            refine qg rfl rfl rfl (fun g w hS => (fa38_2 (g212.1 g))) (fun v213 g213 => ?_)
            refine qg rfl rfl rfl (fun g w hS => (yLd (g213.1 g) Tryz.isAgg3 ((flat_cells slotC_len (row_at (hS.row (.slice al L.length cl)) hae (by omega)) hx).at (j := 2) rfl))) (fun v214 g214 => ?_)
            refine qg rfl rfl rfl (fun g w hS => (yEql (g209.1 g) (g214.1 g))) (fun v215 g215 => ?_)
            refine qv (fun w hS => (yAnd rfl (fun hB => (g215.1 hB)) rfl)) ?_
            clear hS; refine qnil (fun w hS => ?_)
            show Code.wp _ _ _ _ _
            refine cond rfl (fun c216 => ?_) (fun c216 => ?_)
            ·
              simp only [Bool.and_eq_true, Bool.or_eq_true, Bool.and_eq_false_iff, Bool.or_eq_false_iff, decide_eq_true_eq, decide_eq_false_iff_not, Bool.not_eq_true, Bool.not_eq_false, Bool.not_not, Bool.not_eq_eq_eq_not, Bool.not_true, Bool.not_false, Bool.false_eq_true, Bool.true_eq_false, ne_eq, Decidable.not_not, not_false_eq_true, not_true_eq_false] at c216
              have hpq : z.pl = x.pl := Prod.ext c216.1 c216.2
              refine region ?_
              refine sv (yMove h16) ?_
              refine sv (yAdd rfl rfl ⟨by omega, by omega⟩) ?_
              refine sv (yAsg rfl) ?_
              refine nil ?_
              show Code.wp _ _ _ _ _
              refine region ?_
              refine sv (yMove h17) ?_
              refine sv (yAdd rfl rfl ⟨by omega, by omega⟩) ?_
              refine sv (yAsg rfl) ?_
              refine nil ?_
              exact ⟨_, _, rfl, ⟨k + 1, h1, h2, h5, h15, (rfl.trans (congrArg (Value.int .i64) (by rw [take_snoc hz, usedN_snoc, if_pos hpq]; push_cast; omega))), rfl, hS, (by omega), rfl⟩, by omega⟩
            ·
              simp only [Bool.and_eq_true, Bool.or_eq_true, Bool.and_eq_false_iff, Bool.or_eq_false_iff, decide_eq_true_eq, decide_eq_false_iff_not, Bool.not_eq_true, Bool.not_eq_false, Bool.not_not, Bool.not_eq_eq_eq_not, Bool.not_true, Bool.not_false, Bool.false_eq_true, Bool.true_eq_false, ne_eq, Decidable.not_not, not_false_eq_true, not_true_eq_false] at c216
              have hpq : ¬ z.pl = x.pl := fun hh => by
                have h1 : z.channel = x.channel := congrArg Prod.fst hh
                have h2 : z.sent = x.sent := congrArg Prod.snd hh
                omega
              refine skip ?_
              show Code.wp _ _ _ _ _
              refine region ?_
              refine sv (yMove h17) ?_
              refine sv (yAdd rfl rfl ⟨by omega, by omega⟩) ?_
              refine sv (yAsg rfl) ?_
              refine nil ?_
              exact ⟨_, _, rfl, ⟨k + 1, h1, h2, h5, h15, (h16.trans (congrArg (Value.int .i64) (by rw [take_snoc hz, usedN_snoc, if_neg hpq]; push_cast; omega))), rfl, hS, (by omega), rfl⟩, by omega⟩
          ·
            simp only [Bool.and_eq_true, Bool.or_eq_true, Bool.and_eq_false_iff, Bool.or_eq_false_iff, decide_eq_true_eq, decide_eq_false_iff_not, Bool.not_eq_true, Bool.not_eq_false, Bool.not_not, Bool.not_eq_eq_eq_not, Bool.not_true, Bool.not_false, Bool.false_eq_true, Bool.true_eq_false, ne_eq, Decidable.not_not, not_false_eq_true, not_true_eq_false] at c190
            obtain rfl : k = L.length := by omega
            rw [List.take_length] at h16
            refine exit ?_
            show Code.wp _ _ _ _ _
            refine seq ?_
            refine region_draw mixed (by kernel_rfl) hS ?_
            refine qv (fun w hS => (yMove h16)) ?_
            refine qv (fun w hS => (fa26_1 h2)) ?_
            refine qv (fun w hS => (yLdB rfl Tryz.isAgg22 (hS.at _) rfl)) ?_
            refine qv (fun w hS => (yMove h5)) ?_
            refine qv (fun w hS => (yMove h15)) ?_
            refine qv (fun w hS => (yIxa rfl hae rfl Tryz.runUnderlying27 Tryz.sizeOf38 (by omega) (by omega))) ?_
            refine qv (fun w hS => (fa38_1 rfl)) ?_
            refine qv (fun w hS => (yLd rfl Tryz.isAgg3 ((flat_cells slotC_len (row_at (hS.row (.slice al L.length cl)) hae (by omega)) hx).at (j := 1) rfl))) ?_
            refine qv (fun w hS => (yIxa rfl hac rfl Tryz.runUnderlying22 Tryz.sizeOf41 (by omega) (by omega))) ?_
            refine qv (fun w hS => (fa41_2 rfl)) ?_
            refine qv (fun w hS => (yLd rfl Tryz.isAgg3 ((hcsc.ext hS.ext).at (j := 2) rfl))) ?_
            refine qv (fun w hS => (yGtr rfl rfl)) ?_
            clear hS; refine qnil (fun w hS => ?_)
            show Code.wp _ _ _ _ _
            refine cond rfl (fun c230 => ?_) (fun c230 => ?_)
            ·
              simp only [Bool.and_eq_true, Bool.or_eq_true, Bool.and_eq_false_iff, Bool.or_eq_false_iff, decide_eq_true_eq, decide_eq_false_iff_not, Bool.not_eq_true, Bool.not_eq_false, Bool.not_not, Bool.not_eq_eq_eq_not, Bool.not_true, Bool.not_false, Bool.false_eq_true, Bool.true_eq_false, ne_eq, Decidable.not_not, not_false_eq_true, not_true_eq_false] at c230
              exfalso; omega
            ·
              simp only [Bool.and_eq_true, Bool.or_eq_true, Bool.and_eq_false_iff, Bool.or_eq_false_iff, decide_eq_true_eq, decide_eq_false_iff_not, Bool.not_eq_true, Bool.not_eq_false, Bool.not_not, Bool.not_eq_eq_eq_not, Bool.not_true, Bool.not_false, Bool.false_eq_true, Bool.true_eq_false, ne_eq, Decidable.not_not, not_false_eq_true, not_true_eq_false] at c230
              refine skip ?_
              show Code.wp _ _ _ _ _
              refine region ?_
              refine sv (yMove h15) ?_
              refine sv (yAdd rfl rfl ⟨by omega, by omega⟩) ?_
              refine sv (yAsg rfl) ?_
              refine nil ?_
              exact ⟨_, _, rfl, ⟨i + 1, h1, h2, h5, rfl, hS, (by omega), rfl⟩, by omega⟩
        ·
          simp only [Bool.and_eq_true, Bool.or_eq_true, Bool.and_eq_false_iff, Bool.or_eq_false_iff, decide_eq_true_eq, decide_eq_false_iff_not, Bool.not_eq_true, Bool.not_eq_false, Bool.not_not, Bool.not_eq_eq_eq_not, Bool.not_true, Bool.not_false, Bool.false_eq_true, Bool.true_eq_false, ne_eq, Decidable.not_not, not_false_eq_true, not_true_eq_false] at c184
          refine exit ?_
          show Code.wp _ _ _ _ _
          refine seq ?_
          refine region ?_
          refine scall Tryz.call20 .nil (c_Awake (hg.ext hS.ext)) ?_
          rintro _ w ⟨rfl, hE⟩; replace hS := hS.step hE; clear hE
          refine sv (yAsg rfl) ?_
          refine nil ?_
          show Code.wp _ _ _ _ _
          refine wp_ret ?_
          exact retV (res1 rfl rfl) hS.ext
end Go.Proofs.YtmoilbakmlekbaaGreatDoor
/- part RdF -/
namespace Go.Proofs.YtmoilbakmlekbaaGreatDoor
open Go Bx
section
variable {H : Type} {enc : TypeId × Value → H} {w : World} {base : Nat} {spare : Nat → Bool} {held : Bool} {fuel : Nat} {cs : List Value} {x : DataW H × List MemPlace}
theorem rdF26 (h : DataW.trod enc Tryz.prog w base spare held fuel 26 cs = some x) (hW : WOk Tryz.prog 26 x.1) : ∃ n c0 c1 c2 c3, cs = [c0, c1, c2, c3] ∧ (∃ y, DataW.trod enc Tryz.prog w base spare held n 3 [c0] = some y ∧ WOk Tryz.prog 3 y.1) ∧ (∃ y, DataW.trod enc Tryz.prog w base spare held n 22 [c1] = some y ∧ WOk Tryz.prog 22 y.1) ∧ (∃ y, DataW.trod enc Tryz.prog w base spare held n 23 [c2] = some y ∧ WOk Tryz.prog 23 y.1) ∧ (∃ y, DataW.trod enc Tryz.prog w base spare held n 24 [c3] = some y ∧ WOk Tryz.prog 24 y.1) := by
  have z3 : Tryz.prog.cellsOf 3 = 1 := by kernel_rfl
  have z22 : Tryz.prog.cellsOf 22 = 1 := by kernel_rfl
  have z23 : Tryz.prog.cellsOf 23 = 1 := by kernel_rfl
  have z24 : Tryz.prog.cellsOf 24 = 1 := by kernel_rfl
  obtain ⟨hl, n, hf⟩ := rdw_fields Tryz.underlying26 h hW
  have hz : Tryz.prog.cellsOf 26 = 4 := by kernel_rfl
  rw [hz] at hl
  obtain ⟨c0, c1, c2, c3, rfl⟩ := four_of hl
  have f0 : ∃ y, DataW.trod enc Tryz.prog w base spare held n 3 ((List.drop 0 [c0, c1, c2, c3]).take (Tryz.prog.cellsOf 3)) = some y ∧ WOk Tryz.prog 3 y.1 := hf 0 _ rfl
  rw [z3] at f0
  have f1 : ∃ y, DataW.trod enc Tryz.prog w base spare held n 22 ((List.drop 1 [c0, c1, c2, c3]).take (Tryz.prog.cellsOf 22)) = some y ∧ WOk Tryz.prog 22 y.1 := hf 1 _ rfl
  rw [z22] at f1
  have f2 : ∃ y, DataW.trod enc Tryz.prog w base spare held n 23 ((List.drop 2 [c0, c1, c2, c3]).take (Tryz.prog.cellsOf 23)) = some y ∧ WOk Tryz.prog 23 y.1 := hf 2 _ rfl
  rw [z23] at f2
  have f3 : ∃ y, DataW.trod enc Tryz.prog w base spare held n 24 ((List.drop 3 [c0, c1, c2, c3]).take (Tryz.prog.cellsOf 24)) = some y ∧ WOk Tryz.prog 24 y.1 := hf 3 _ rfl
  rw [z24] at f3
  exact ⟨n, c0, c1, c2, c3, rfl, f0, f1, f2, f3⟩
theorem rdF36 (h : DataW.trod enc Tryz.prog w base spare held fuel 36 cs = some x) (hW : WOk Tryz.prog 36 x.1) : ∃ n c0 c1 c2 c3 c4, cs = [c0, c1, c2, c3, c4] ∧ (∃ y, DataW.trod enc Tryz.prog w base spare held n 9 [c0] = some y ∧ WOk Tryz.prog 9 y.1) ∧ (∃ y, DataW.trod enc Tryz.prog w base spare held n 3 [c1] = some y ∧ WOk Tryz.prog 3 y.1) ∧ (∃ y, DataW.trod enc Tryz.prog w base spare held n 3 [c2] = some y ∧ WOk Tryz.prog 3 y.1) ∧ (∃ y, DataW.trod enc Tryz.prog w base spare held n 3 [c3] = some y ∧ WOk Tryz.prog 3 y.1) ∧ (∃ y, DataW.trod enc Tryz.prog w base spare held n 34 [c4] = some y ∧ WOk Tryz.prog 34 y.1) := by
  have z3 : Tryz.prog.cellsOf 3 = 1 := by kernel_rfl
  have z9 : Tryz.prog.cellsOf 9 = 1 := by kernel_rfl
  have z34 : Tryz.prog.cellsOf 34 = 1 := by kernel_rfl
  obtain ⟨hl, n, hf⟩ := rdw_fields Tryz.underlying36 h hW
  have hz : Tryz.prog.cellsOf 36 = 5 := by kernel_rfl
  rw [hz] at hl
  obtain ⟨c0, c1, c2, c3, c4, rfl⟩ := five_of hl
  have f0 : ∃ y, DataW.trod enc Tryz.prog w base spare held n 9 ((List.drop 0 [c0, c1, c2, c3, c4]).take (Tryz.prog.cellsOf 9)) = some y ∧ WOk Tryz.prog 9 y.1 := hf 0 _ rfl
  rw [z9] at f0
  have f1 : ∃ y, DataW.trod enc Tryz.prog w base spare held n 3 ((List.drop 1 [c0, c1, c2, c3, c4]).take (Tryz.prog.cellsOf 3)) = some y ∧ WOk Tryz.prog 3 y.1 := hf 1 _ rfl
  rw [z3] at f1
  have f2 : ∃ y, DataW.trod enc Tryz.prog w base spare held n 3 ((List.drop 2 [c0, c1, c2, c3, c4]).take (Tryz.prog.cellsOf 3)) = some y ∧ WOk Tryz.prog 3 y.1 := hf 2 _ rfl
  rw [z3] at f2
  have f3 : ∃ y, DataW.trod enc Tryz.prog w base spare held n 3 ((List.drop 3 [c0, c1, c2, c3, c4]).take (Tryz.prog.cellsOf 3)) = some y ∧ WOk Tryz.prog 3 y.1 := hf 3 _ rfl
  rw [z3] at f3
  have f4 : ∃ y, DataW.trod enc Tryz.prog w base spare held n 34 ((List.drop 4 [c0, c1, c2, c3, c4]).take (Tryz.prog.cellsOf 34)) = some y ∧ WOk Tryz.prog 34 y.1 := hf 4 _ rfl
  rw [z34] at f4
  exact ⟨n, c0, c1, c2, c3, c4, rfl, f0, f1, f2, f3, f4⟩
theorem rdF41 (h : DataW.trod enc Tryz.prog w base spare held fuel 41 cs = some x) (hW : WOk Tryz.prog 41 x.1) : ∃ n c0 c1 c2, cs = [c0, c1, c2] ∧ (∃ y, DataW.trod enc Tryz.prog w base spare held n 9 [c0] = some y ∧ WOk Tryz.prog 9 y.1) ∧ (∃ y, DataW.trod enc Tryz.prog w base spare held n 3 [c1] = some y ∧ WOk Tryz.prog 3 y.1) ∧ (∃ y, DataW.trod enc Tryz.prog w base spare held n 3 [c2] = some y ∧ WOk Tryz.prog 3 y.1) := by
  have z3 : Tryz.prog.cellsOf 3 = 1 := by kernel_rfl
  have z9 : Tryz.prog.cellsOf 9 = 1 := by kernel_rfl
  obtain ⟨hl, n, hf⟩ := rdw_fields Tryz.underlying41 h hW
  have hz : Tryz.prog.cellsOf 41 = 3 := by kernel_rfl
  rw [hz] at hl
  obtain ⟨c0, c1, c2, rfl⟩ := three_of hl
  have f0 : ∃ y, DataW.trod enc Tryz.prog w base spare held n 9 ((List.drop 0 [c0, c1, c2]).take (Tryz.prog.cellsOf 9)) = some y ∧ WOk Tryz.prog 9 y.1 := hf 0 _ rfl
  rw [z9] at f0
  have f1 : ∃ y, DataW.trod enc Tryz.prog w base spare held n 3 ((List.drop 1 [c0, c1, c2]).take (Tryz.prog.cellsOf 3)) = some y ∧ WOk Tryz.prog 3 y.1 := hf 1 _ rfl
  rw [z3] at f1
  have f2 : ∃ y, DataW.trod enc Tryz.prog w base spare held n 3 ((List.drop 2 [c0, c1, c2]).take (Tryz.prog.cellsOf 3)) = some y ∧ WOk Tryz.prog 3 y.1 := hf 2 _ rfl
  rw [z3] at f2
  exact ⟨n, c0, c1, c2, rfl, f0, f1, f2⟩
theorem rdF54 (h : DataW.trod enc Tryz.prog w base spare held fuel 54 cs = some x) (hW : WOk Tryz.prog 54 x.1) : ∃ n c0 c1 c2 c3, cs = [c0, c1, c2, c3] ∧ (∃ y, DataW.trod enc Tryz.prog w base spare held n 5 [c0] = some y ∧ WOk Tryz.prog 5 y.1) ∧ (∃ y, DataW.trod enc Tryz.prog w base spare held n 5 [c1] = some y ∧ WOk Tryz.prog 5 y.1) ∧ (∃ y, DataW.trod enc Tryz.prog w base spare held n 5 [c2] = some y ∧ WOk Tryz.prog 5 y.1) ∧ (∃ y, DataW.trod enc Tryz.prog w base spare held n 52 [c3] = some y ∧ WOk Tryz.prog 52 y.1) := by
  have z5 : Tryz.prog.cellsOf 5 = 1 := by kernel_rfl
  have z52 : Tryz.prog.cellsOf 52 = 1 := by kernel_rfl
  obtain ⟨hl, n, hf⟩ := rdw_fields Tryz.underlying54 h hW
  have hz : Tryz.prog.cellsOf 54 = 4 := by kernel_rfl
  rw [hz] at hl
  obtain ⟨c0, c1, c2, c3, rfl⟩ := four_of hl
  have f0 : ∃ y, DataW.trod enc Tryz.prog w base spare held n 5 ((List.drop 0 [c0, c1, c2, c3]).take (Tryz.prog.cellsOf 5)) = some y ∧ WOk Tryz.prog 5 y.1 := hf 0 _ rfl
  rw [z5] at f0
  have f1 : ∃ y, DataW.trod enc Tryz.prog w base spare held n 5 ((List.drop 1 [c0, c1, c2, c3]).take (Tryz.prog.cellsOf 5)) = some y ∧ WOk Tryz.prog 5 y.1 := hf 1 _ rfl
  rw [z5] at f1
  have f2 : ∃ y, DataW.trod enc Tryz.prog w base spare held n 5 ((List.drop 2 [c0, c1, c2, c3]).take (Tryz.prog.cellsOf 5)) = some y ∧ WOk Tryz.prog 5 y.1 := hf 2 _ rfl
  rw [z5] at f2
  have f3 : ∃ y, DataW.trod enc Tryz.prog w base spare held n 52 ((List.drop 3 [c0, c1, c2, c3]).take (Tryz.prog.cellsOf 52)) = some y ∧ WOk Tryz.prog 52 y.1 := hf 3 _ rfl
  rw [z52] at f3
  exact ⟨n, c0, c1, c2, c3, rfl, f0, f1, f2, f3⟩
theorem rdF57 (h : DataW.trod enc Tryz.prog w base spare held fuel 57 cs = some x) : ∃ n c0 c1, cs = [c0, c1] ∧ (∃ y, DataW.trod enc Tryz.prog w base spare held n 56 [c0] = some y) ∧ (∃ y, DataW.trod enc Tryz.prog w base spare held n 56 [c1] = some y) := by
  have z56 : Tryz.prog.cellsOf 56 = 1 := by kernel_rfl
  obtain ⟨hl, n, hf⟩ := rd_elems Tryz.underlying57 z56 h
  have hz : Tryz.prog.cellsOf 57 = 2 := by kernel_rfl
  rw [hz] at hl
  obtain ⟨c0, c1, rfl⟩ := two_of hl
  have f0 : ∃ y, DataW.trod enc Tryz.prog w base spare held n 56 [c0] = some y := hf 0 (by omega)
  have f1 : ∃ y, DataW.trod enc Tryz.prog w base spare held n 56 [c1] = some y := hf 1 (by omega)
  exact ⟨n, c0, c1, rfl, f0, f1⟩
theorem rdF63 (h : DataW.trod enc Tryz.prog w base spare held fuel 63 cs = some x) : ∃ n c0 c1, cs = [c0, c1] ∧ (∃ y, DataW.trod enc Tryz.prog w base spare held n 3 [c0] = some y) ∧ (∃ y, DataW.trod enc Tryz.prog w base spare held n 3 [c1] = some y) := by
  have z3 : Tryz.prog.cellsOf 3 = 1 := by kernel_rfl
  obtain ⟨hl, n, hf⟩ := rd_elems Tryz.underlying63 z3 h
  have hz : Tryz.prog.cellsOf 63 = 2 := by kernel_rfl
  rw [hz] at hl
  obtain ⟨c0, c1, rfl⟩ := two_of hl
  have f0 : ∃ y, DataW.trod enc Tryz.prog w base spare held n 3 [c0] = some y := hf 0 (by omega)
  have f1 : ∃ y, DataW.trod enc Tryz.prog w base spare held n 3 [c1] = some y := hf 1 (by omega)
  exact ⟨n, c0, c1, rfl, f0, f1⟩
theorem rdF70 (h : DataW.trod enc Tryz.prog w base spare held fuel 70 cs = some x) (hW : WOk Tryz.prog 70 x.1) : ∃ n c0 c1 c2 c3 c4, cs = [c0, c1, c2, c3, c4] ∧ (∃ y, DataW.trod enc Tryz.prog w base spare held n 3 [c0] = some y ∧ WOk Tryz.prog 3 y.1) ∧ (∃ y, DataW.trod enc Tryz.prog w base spare held n 3 [c1] = some y ∧ WOk Tryz.prog 3 y.1) ∧ (∃ y, DataW.trod enc Tryz.prog w base spare held n 3 [c2] = some y ∧ WOk Tryz.prog 3 y.1) ∧ (∃ y, DataW.trod enc Tryz.prog w base spare held n 3 [c3] = some y ∧ WOk Tryz.prog 3 y.1) ∧ (∃ y, DataW.trod enc Tryz.prog w base spare held n 3 [c4] = some y ∧ WOk Tryz.prog 3 y.1) := by
  have z3 : Tryz.prog.cellsOf 3 = 1 := by kernel_rfl
  obtain ⟨hl, n, hf⟩ := rdw_fields Tryz.underlying70 h hW
  have hz : Tryz.prog.cellsOf 70 = 5 := by kernel_rfl
  rw [hz] at hl
  obtain ⟨c0, c1, c2, c3, c4, rfl⟩ := five_of hl
  have f0 : ∃ y, DataW.trod enc Tryz.prog w base spare held n 3 ((List.drop 0 [c0, c1, c2, c3, c4]).take (Tryz.prog.cellsOf 3)) = some y ∧ WOk Tryz.prog 3 y.1 := hf 0 _ rfl
  rw [z3] at f0
  have f1 : ∃ y, DataW.trod enc Tryz.prog w base spare held n 3 ((List.drop 1 [c0, c1, c2, c3, c4]).take (Tryz.prog.cellsOf 3)) = some y ∧ WOk Tryz.prog 3 y.1 := hf 1 _ rfl
  rw [z3] at f1
  have f2 : ∃ y, DataW.trod enc Tryz.prog w base spare held n 3 ((List.drop 2 [c0, c1, c2, c3, c4]).take (Tryz.prog.cellsOf 3)) = some y ∧ WOk Tryz.prog 3 y.1 := hf 2 _ rfl
  rw [z3] at f2
  have f3 : ∃ y, DataW.trod enc Tryz.prog w base spare held n 3 ((List.drop 3 [c0, c1, c2, c3, c4]).take (Tryz.prog.cellsOf 3)) = some y ∧ WOk Tryz.prog 3 y.1 := hf 3 _ rfl
  rw [z3] at f3
  have f4 : ∃ y, DataW.trod enc Tryz.prog w base spare held n 3 ((List.drop 4 [c0, c1, c2, c3, c4]).take (Tryz.prog.cellsOf 3)) = some y ∧ WOk Tryz.prog 3 y.1 := hf 4 _ rfl
  rw [z3] at f4
  exact ⟨n, c0, c1, c2, c3, c4, rfl, f0, f1, f2, f3, f4⟩
theorem rdF72 (h : DataW.trod enc Tryz.prog w base spare held fuel 72 cs = some x) : ∃ n c0 c1 c2, cs = [c0, c1, c2] ∧ (∃ y, DataW.trod enc Tryz.prog w base spare held n 3 [c0] = some y) ∧ (∃ y, DataW.trod enc Tryz.prog w base spare held n 3 [c1] = some y) ∧ (∃ y, DataW.trod enc Tryz.prog w base spare held n 3 [c2] = some y) := by
  have z3 : Tryz.prog.cellsOf 3 = 1 := by kernel_rfl
  obtain ⟨hl, n, hf⟩ := rd_elems Tryz.underlying72 z3 h
  have hz : Tryz.prog.cellsOf 72 = 3 := by kernel_rfl
  rw [hz] at hl
  obtain ⟨c0, c1, c2, rfl⟩ := three_of hl
  have f0 : ∃ y, DataW.trod enc Tryz.prog w base spare held n 3 [c0] = some y := hf 0 (by omega)
  have f1 : ∃ y, DataW.trod enc Tryz.prog w base spare held n 3 [c1] = some y := hf 1 (by omega)
  have f2 : ∃ y, DataW.trod enc Tryz.prog w base spare held n 3 [c2] = some y := hf 2 (by omega)
  exact ⟨n, c0, c1, c2, rfl, f0, f1, f2⟩
end
end Go.Proofs.YtmoilbakmlekbaaGreatDoor
/- part Rd1 -/
namespace Go.Proofs.YtmoilbakmlekbaaGreatDoor
open Go Bx
theorem rd_Ints : RdW Tryz.prog 34 (fun w cs (l : List Int) => ∃ v, cs = [v] ∧ Sl w 1 RInt v l ∧ l.length * 8 ≤ 140737488351232) := rdw_slice (Rd.w (rd_int Tryz.underlying3)) (by kernel_rfl) (by decide) Tryz.underlying34 (by kernel_rfl)
theorem rd_Row : RdW Tryz.prog 34 RRow := fun H enc w base spare held fuel cs x h hW => by obtain ⟨a, v, e, i, -⟩ := rd_Ints H enc w base spare held fuel cs x h hW; exact ⟨a, v, e, i⟩
theorem rd_Rows : RdW Tryz.prog 24 (fun w cs (l : List (List Int)) => ∃ v, cs = [v] ∧ Sl w 1 RRow v l ∧ l.length * 24 ≤ 140737488351232) := rdw_slice rd_Row (by kernel_rfl) (by decide) Tryz.underlying24 (by kernel_rfl)
theorem rd_Chan : RdW Tryz.prog 41 RChan := by
  intro H enc w base spare held fuel cs x h hW
  obtain ⟨n, c0, c1, c2, rfl, ⟨y0, f0, k0⟩, ⟨y1, f1, k1⟩, ⟨y2, f2, k2⟩⟩ := rdF41 h hW
  obtain ⟨a0, g0⟩ := (Rd.w (rd_str Tryz.underlying9)) _ _ _ _ _ _ _ _ _ f0 k0
  obtain ⟨a1, g1⟩ := (Rd.w (rd_int Tryz.underlying3)) _ _ _ _ _ _ _ _ _ f1 k1
  obtain ⟨a2, g2⟩ := (Rd.w (rd_int Tryz.underlying3)) _ _ _ _ _ _ _ _ _ f2 k2
  obtain ⟨e0, i0⟩ := g0; obtain ⟨e1, i1⟩ := g1; obtain ⟨e2, i2⟩ := g2; cases e0; cases e1; cases e2; exact ⟨⟨a0, a1, a2⟩, rfl, i0, i1, i2⟩
theorem rd_Chans : RdW Tryz.prog 22 (fun w cs (l : List Chan) => ∃ v, cs = [v] ∧ Sl w 3 RChan v l ∧ l.length * 32 ≤ 140737488351232) := rdw_slice rd_Chan (by kernel_rfl) (by decide) Tryz.underlying22 (by kernel_rfl)
theorem rd_Town : RdW Tryz.prog 36 RTown := by
  intro H enc w base spare held fuel cs x h hW
  obtain ⟨n, c0, c1, c2, c3, c4, rfl, ⟨y0, f0, k0⟩, ⟨y1, f1, k1⟩, ⟨y2, f2, k2⟩, ⟨y3, f3, k3⟩, ⟨y4, f4, k4⟩⟩ := rdF36 h hW
  obtain ⟨a0, g0⟩ := (Rd.w (rd_str Tryz.underlying9)) _ _ _ _ _ _ _ _ _ f0 k0
  obtain ⟨a1, g1⟩ := (Rd.w (rd_int Tryz.underlying3)) _ _ _ _ _ _ _ _ _ f1 k1
  obtain ⟨a2, g2⟩ := (Rd.w (rd_int Tryz.underlying3)) _ _ _ _ _ _ _ _ _ f2 k2
  obtain ⟨a3, g3⟩ := (Rd.w (rd_int Tryz.underlying3)) _ _ _ _ _ _ _ _ _ f3 k3
  obtain ⟨a4, g4⟩ := rd_Ints _ _ _ _ _ _ _ _ _ f4 k4
  obtain ⟨e0, i0⟩ := g0; obtain ⟨e1, i1⟩ := g1; obtain ⟨e2, i2⟩ := g2; obtain ⟨e3, i3⟩ := g3; obtain ⟨v4, e4, i4, r4⟩ := g4; cases e0; cases e1; cases e2; cases e3; cases e4; exact ⟨⟨a0, a1, a2, a3, a4⟩, _, rfl, i0, i1, i2, i3, i4, r4⟩
theorem rd_Towns : RdW Tryz.prog 23 (fun w cs (l : List Town) => ∃ v, cs = [v] ∧ Sl w 5 RTown v l ∧ l.length * 64 ≤ 140737488351232) := rdw_slice rd_Town (by kernel_rfl) (by decide) Tryz.underlying23 (by kernel_rfl)
theorem rd_Task : RdW Tryz.prog 26 RTask := by
  intro H enc w base spare held fuel cs x h hW
  obtain ⟨n, c0, c1, c2, c3, rfl, ⟨y0, f0, k0⟩, ⟨y1, f1, k1⟩, ⟨y2, f2, k2⟩, ⟨y3, f3, k3⟩⟩ := rdF26 h hW
  obtain ⟨a0, g0⟩ := (Rd.w (rd_int Tryz.underlying3)) _ _ _ _ _ _ _ _ _ f0 k0
  obtain ⟨a1, g1⟩ := rd_Chans _ _ _ _ _ _ _ _ _ f1 k1
  obtain ⟨a2, g2⟩ := rd_Towns _ _ _ _ _ _ _ _ _ f2 k2
  obtain ⟨a3, g3⟩ := rd_Rows _ _ _ _ _ _ _ _ _ f3 k3
  obtain ⟨e0, i0⟩ := g0; obtain ⟨v1, e1, i1, r1⟩ := g1; obtain ⟨v2, e2, i2, r2⟩ := g2; obtain ⟨v3, e3, i3, r3⟩ := g3; cases e0; cases e1; cases e2; cases e3; exact ⟨⟨a0, a1, a2, a3⟩, _, _, _, rfl, i0, i1, i2, i3⟩
theorem rd_Msg : RdW Tryz.prog 70 RMsg := by
  intro H enc w base spare held fuel cs x h hW
  obtain ⟨n, c0, c1, c2, c3, c4, rfl, ⟨y0, f0, k0⟩, ⟨y1, f1, k1⟩, ⟨y2, f2, k2⟩, ⟨y3, f3, k3⟩, ⟨y4, f4, k4⟩⟩ := rdF70 h hW
  obtain ⟨a0, g0⟩ := (Rd.w (rd_int Tryz.underlying3)) _ _ _ _ _ _ _ _ _ f0 k0
  obtain ⟨a1, g1⟩ := (Rd.w (rd_int Tryz.underlying3)) _ _ _ _ _ _ _ _ _ f1 k1
  obtain ⟨a2, g2⟩ := (Rd.w (rd_int Tryz.underlying3)) _ _ _ _ _ _ _ _ _ f2 k2
  obtain ⟨a3, g3⟩ := (Rd.w (rd_int Tryz.underlying3)) _ _ _ _ _ _ _ _ _ f3 k3
  obtain ⟨a4, g4⟩ := (Rd.w (rd_int Tryz.underlying3)) _ _ _ _ _ _ _ _ _ f4 k4
  obtain ⟨e0, i0⟩ := g0; obtain ⟨e1, i1⟩ := g1; obtain ⟨e2, i2⟩ := g2; obtain ⟨e3, i3⟩ := g3; obtain ⟨e4, i4⟩ := g4; cases e0; cases e1; cases e2; cases e3; cases e4; exact ⟨⟨a0, a1, a2, a3, a4⟩, rfl, i0, i1, i2, i3, i4⟩
theorem rd_Msgs : RdW Tryz.prog 62 (fun w cs (l : List Msg) => ∃ v, cs = [v] ∧ Sl w 5 RMsg v l ∧ l.length * 40 ≤ 140737488351232) := rdw_slice rd_Msg (by kernel_rfl) (by decide) Tryz.underlying62 (by kernel_rfl)
theorem rd_ThreeI : RdW Tryz.prog 72 RThreeI := by
  intro H enc w base spare held fuel cs x h hW
  obtain ⟨n, c0, c1, c2, rfl, ⟨y0, f0⟩, ⟨y1, f1⟩, ⟨y2, f2⟩⟩ := rdF72 h
  obtain ⟨a0, e0, i0⟩ := rd_int Tryz.underlying3 _ _ _ _ _ _ _ _ _ f0
  obtain ⟨a1, e1, i1⟩ := rd_int Tryz.underlying3 _ _ _ _ _ _ _ _ _ f1
  obtain ⟨a2, e2, i2⟩ := rd_int Tryz.underlying3 _ _ _ _ _ _ _ _ _ f2
  cases e0; cases e1; cases e2; exact ⟨(a0, a1, a2), rfl, i0, i1, i2⟩
theorem rd_TwoU : RdW Tryz.prog 57 RTwoU := by
  intro H enc w base spare held fuel cs x h hW
  obtain ⟨n, c0, c1, rfl, ⟨y0, f0⟩, ⟨y1, f1⟩⟩ := rdF57 h
  obtain ⟨a0, e0, i0⟩ := rd_u32 Tryz.underlying56 _ _ _ _ _ _ _ _ _ f0
  obtain ⟨a1, e1, i1⟩ := rd_u32 Tryz.underlying56 _ _ _ _ _ _ _ _ _ f1
  cases e0; cases e1; exact ⟨(a0, a1), rfl, i0, i1⟩
end Go.Proofs.YtmoilbakmlekbaaGreatDoor
/- part Laid -/
namespace Go.Proofs.YtmoilbakmlekbaaGreatDoor
open Go Bx Go.ChangeShapes Go.WideShapes Go.RowKit
theorem laidEt : Tryz.prog.globalNamed "errors.errorType" = some 0 := by kernel_rfl
theorem laidRt : (Tryz.prog.cutTypes.find? (·.1 == "internal/reflectlite.rtype")).map (·.2) = some 217 := by kernel_rfl
theorem laidOne : ((List.range 309).filter fun t => Tryz.prog.rowNamed t [101, 114, 114, 111, 114]) = [120] := by kernel_rfl
theorem laidSize : Tryz.prog.types.size = 309 := by kernel_rfl
theorem glb_of_laid {W : World} (h : laidMetH Tryz.prog [("errors.errorType", Rows.laid_errors_errorType)] W) : Glb W := by
  have h' : laidMet Tryz.prog [] W ∧ handlesMet Tryz.prog [("errors.errorType", Rows.laid_errors_errorType)] W := h
  obtain ⟨name, u, ty, e1, e2, e3, e4, e5⟩ := h'.2 _ (List.mem_singleton.2 rfl)
  have en : name = [101, 114, 114, 111, 114] := (Option.some.inj e1).symm
  subst en
  obtain rfl := Option.some.inj (laidRt.symm.trans e2)
  have hm : ty ∈ (List.range 309).filter fun t => Tryz.prog.rowNamed t [101, 114, 114, 111, 114] := List.mem_filter.2 ⟨List.mem_range.2 (by rw [← laidSize]; exact e3), e4⟩
  rw [laidOne] at hm
  obtain rfl := List.mem_singleton.1 hm
  have hh : typeHandle Tryz.prog 120 = .pointer (some ⟨1, 120, none⟩) := by kernel_rfl
  rw [hh] at e5
  simpa [Glb] using World.var?_cell laidEt e5 0
noncomputable def laidWorld (os : Os) : World :=
  let w0 := World.holding Tryz.prog os ⟨#[], #[], []⟩
  { w0 with heap := w0.heap.modify 0 fun
      | .cells _ t frozen => .cells #[.iface 217 (.agg #[.pointer (some ⟨1, 120, none⟩)])] t frozen
      | o => o }
theorem laidWorld_met (os : Os) (args : Array Value) : laidMetH Tryz.prog [("errors.errorType", Rows.laid_errors_errorType)] ((laidWorld os).forCall (fun _ _ => 0) ⟨#[], args, []⟩).memory :=
  laidMetH_of_parts (laidMet_nil _ _) (by kernel_rfl)
end Go.Proofs.YtmoilbakmlekbaaGreatDoor
