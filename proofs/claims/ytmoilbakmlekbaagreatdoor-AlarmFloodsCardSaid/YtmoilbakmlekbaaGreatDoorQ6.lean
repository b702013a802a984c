/- Merged texts, part 6. -/
import Derived.Test.YtmoilbakmlekbaaGreatDoorQ5
import Derived.Test.YtmoilbakmlekbaaGreatDoorProg
import Derived.Test.YtmoilbakmlekbaaGreatDoorRows
import Derived.ChangeSame
import Derived.ChangeVars
import Derived.JoinedOf
import Derived.RowKit
import Derived.RowKitTokens
import Derived.LaidLaws
import Derived.LaidHandle
import Derived.Stop.Joined
set_option linter.all false
/- part A43 -/
namespace Bx
open Go Go.RowKit
/-- The first numbers are moved on, the rest not yet. -/
def addP (frm : Int) (l : List Int) (j : Nat) : List Int := (l.take j).map (addF frm) ++ l.drop j
theorem addP_0 (frm : Int) (l : List Int) : addP frm l 0 = l := by simp [addP]
theorem addP_len (frm : Int) (l : List Int) (j : Nat) : (addP frm l j).length = l.length := by simp [addP]; omega
theorem addP_all (frm : Int) (l : List Int) : addP frm l l.length = l.map (addF frm) := by simp [addP]
theorem addP_at {frm : Int} {l : List Int} {j : Nat} {x : Int} (h : l[j]? = some x) : (addP frm l j)[j]? = some x := by
  have hl := (List.getElem?_eq_some_iff.1 h).1
  unfold addP
  rw [List.getElem?_append_right (by simp; omega)]
  simp [Nat.min_eq_left (Nat.le_of_lt hl), h]
theorem addP_succ {frm : Int} {l : List Int} {j : Nat} {x : Int} (h : l[j]? = some x) : addP frm l (j + 1) = (addP frm l j).set j (addF frm x) := by
  have hl := (List.getElem?_eq_some_iff.1 h).1
  obtain ⟨y, hy, hd⟩ := drop_of hl
  obtain rfl : x = y := by rw [h] at hy; exact Option.some.inj hy
  unfold addP
  rw [List.set_append_right _ _ (by simp; omega), hd, take_snoc h, List.map_append]
  have : j - (List.map (addF frm) (List.take j l)).length = 0 := by simp; omega
  rw [this]
  simp
theorem addP_keep {frm : Int} {l : List Int} {j : Nat} {x : Int} (h : l[j]? = some x) (hx : addF frm x = x) : addP frm l (j + 1) = addP frm l j := by
  rw [addP_succ h, hx]
  have := addP_at (frm := frm) h
  obtain ⟨h1, h2⟩ := List.getElem?_eq_some_iff.1 this
  conv => lhs; rw [← h2]
  exact List.set_getElem_self h1
theorem any_snoc {α : Type} {p : α → Bool} {l : List α} {j : Nat} {x : α} (h : l[j]? = some x) : (l.take (j + 1)).any p = ((l.take j).any p || p x) := by
  rw [take_snoc h, List.any_append]; simp
def lateH (b : Bas) (s : BSt) (frm : Int) (h : List BTk) : Bool := (floodsF b s h).any (lateF frm)
section
variable {b : Bas} {s : BSt} {frm : Int} {hs : List (List BTk)}
theorem from_st (h : stB b s ≠ 0) : fromE b s frm hs = stB b s := if_pos h
theorem from_frm (h : stB b s = 0) (h2 : outB frm 0 200000 = true) : fromE b s frm hs = 7 := by unfold fromE; rw [if_neg (fun k => k h), if_pos h2]
theorem from_len (h : stB b s = 0) (h2 : outB frm 0 200000 = false) (h3 : outB hs.length 1 8 = true) : fromE b s frm hs = 3 := by unfold fromE; rw [if_neg (fun k => k h), if_neg (by rw [h2]; decide), if_pos h3]
theorem from_run (h : stB b s = 0) (h2 : outB frm 0 200000 = false) (h3 : outB hs.length 1 8 = false) {e : Int} (h4 : (firstR (runE b s) hs 0).2 = e) (he : e ≠ 0) : fromE b s frm hs = e := by unfold fromE; rw [if_neg (fun k => k h), if_neg (by rw [h2]; decide), if_neg (by rw [h3]; decide), if_pos (by rw [h4]; exact he), h4]
theorem from_late (h : stB b s = 0) (h2 : outB frm 0 200000 = false) (h3 : outB hs.length 1 8 = false) (h4 : (firstR (runE b s) hs 0).2 = 0) : fromE b s frm hs = if hs.any (lateH b s frm) = true then 7 else 0 := by unfold fromE; rw [if_neg (fun k => k h), if_neg (by rw [h2]; decide), if_neg (by rw [h3]; decide), if_neg (fun k => k h4)]; rfl
theorem from_err (h : fromE b s frm hs ≠ 0) : fromR b s frm hs = ([], fromE b s frm hs) := if_pos h
theorem from_in (h : fromE b s frm hs = 0) : fromR b s frm hs = (fromL b s frm hs, 0) := if_neg (fun k => k h)
theorem fromL_snoc {k : Nat} {h : List BTk} (hx : hs[k]? = some h) : fromL b s frm (hs.take (k + 1)) = fromL b s frm (hs.take k) ++ [(floodsF b s h).map (addF frm)] := by unfold fromL; rw [take_snoc hx, List.map_append]; rfl
theorem fromL_len : (fromL b s frm hs).length = hs.length := by simp [fromL]
theorem fl_mem {h : List BTk} {x : Int} (hx : x ∈ floodsF b s h) : -1 ≤ x ∧ x < h.length := by
  obtain ⟨i, -, rfl⟩ := List.mem_map.1 hx
  exact firstFl_bd b s h i
theorem fromL_I64 (hf : outB frm 0 200000 = false) (hr : ∀ h ∈ hs, h.length ≤ 300) : ∀ z ∈ fromL b s frm hs, ∀ x ∈ z, I64 x := by
  intro z hz x hx
  obtain ⟨h, hh, rfl⟩ := List.mem_map.1 hz
  obtain ⟨y, hy, rfl⟩ := List.mem_map.1 hx
  have := fl_mem hy
  have := hr h hh
  simp only [outB_false] at hf
  unfold addF
  split <;> constructor <;> omega
theorem lateF_at {n : Int} (h : 0 ≤ n) : lateF frm n = decide (200000 < n + frm) := by unfold lateF; simp [h]
theorem lateF_no {n : Int} (h : ¬ 0 ≤ n) : lateF frm n = false := by unfold lateF; simp [h]
theorem addF_at {n : Int} (h : 0 ≤ n) : addF frm n = n + frm := if_pos h
theorem addF_no {n : Int} (h : ¬ 0 ≤ n) : addF frm n = n := if_neg h
theorem fromE_0 (h : fromE b s frm hs = 0) : stB b s = 0 ∧ outB frm 0 200000 = false ∧ outB hs.length 1 8 = false ∧ (∀ x ∈ hs, runE b s x = 0) ∧ hs.any (lateH b s frm) = false := by
  unfold fromE at h
  split at h
  next h1 => exact absurd h h1
  next h1 =>
  split at h
  · simp at h
  next h2 =>
  split at h
  · simp at h
  next h3 =>
  split at h
  next h4 => exact absurd h h4
  next h4 =>
  split at h
  · simp at h
  next h5 => exact ⟨Decidable.not_not.1 h1, by simpa using h2, by simpa using h3, firstR_ok _ _ (Decidable.not_not.1 h4), by simpa [lateH] using h5⟩
end
end Bx

/- part Aw58 -/
namespace Go.Proofs.YtmoilbakmlekbaaGreatDoor
open Go Bx
set_option maxHeartbeats 4000000 in
/-- barrage/alarm.From -/
theorem c_From {b : Bas} {s : BSt} {hs : List (List BTk)} {frm : Int} {cs qs : List Value} {hv : Value} {w0 : World} (hg : Glb w0) (h : RBas w0 cs b) (hsq : RBst w0 qs s) (hh : Sl w0 1 RTks hv hs) : CE Tryz.prog 44 #[.agg cs.toArray, .agg qs.toArray, .int .i64 frm, hv] w0 (fun u w' => ∃ lv, u = .tuple #[lv, .int .i64 (fromR b s frm hs).2] ∧ Sl w' 1 RRow lv (fromR b s frm hs).1 ∧ Ext w0 w') := by
  obtain ⟨rv, pv, rfl, hsr, hlk, hcr, hov, hsp⟩ := id h
  obtain ⟨ar, cr, rfl, hrcap, hrmx, hrel⟩ := id hsr
  obtain ⟨ap, cp, rfl, hpcap, hpmx, hpel⟩ := id hsp
  obtain ⟨fv, rfl, hsv, hsf, hsm⟩ := id hsq
  obtain ⟨af, cf, rfl, hfcap, hfmx, hfel⟩ := id hsf
  obtain ⟨ah, ch, rfl, hhcap, hhmx, hhel⟩ := id hh
  refine enter Tryz.func44 rfl Tryz.ntmps44 rfl ?_
  have hS := St.start w0
  refine seq ?_
  refine region ?_
  refine sbox hS rfl rfl ?_; clear hS; intro b4 w hS
  refine sbox hS rfl rfl ?_; clear hS; intro b5 w hS
  refine sv (yAsg rfl) ?_
  refine sv (yAsg rfl) ?_
  refine nil ?_
  show Code.wp _ _ _ _ _
  refine seq ?_
  refine region ?_
  refine sv (yLdBA rfl Tryz.isAgg85 Tryz.sizeOf85 (hS.at _) rfl rfl) ?_
  refine sv (yLdBA rfl Tryz.isAgg87 Tryz.sizeOf87 (hS.at _) rfl rfl) ?_
  refine scall Tryz.call96 (.cons rfl (.cons rfl .nil)) (c_CheckState (h.ext hS.ext) (hsq.ext hS.ext)) ?_
  rintro _ w ⟨rfl, hE⟩; replace hS := hS.step hE; clear hE
  refine sv (yAsg rfl) ?_
  refine nil ?_
  show Code.wp _ _ _ _ _
  refine seq ?_
  refine block ?_
  refine seq ?_
  refine region ?_
  refine sv (yMove rfl) ?_
  refine sv (yNeq rfl rfl) ?_
  refine sv (yAsg rfl) ?_
  refine nil ?_
  show Code.wp _ _ _ _ _
  refine cond rfl (fun c20 => ?_) (fun c20 => ?_)
  ·
    simp only [Bool.and_eq_true, Bool.or_eq_true, Bool.and_eq_false_iff, Bool.or_eq_false_iff, decide_eq_true_eq, decide_eq_false_iff_not, Bool.not_eq_true, Bool.not_eq_false, Bool.not_not, Bool.not_eq_eq_eq_not, Bool.not_true, Bool.not_false, Bool.false_eq_true, Bool.true_eq_false, ne_eq, Decidable.not_not, not_false_eq_true, not_true_eq_false] at c20
    refine seq ?_
    refine region ?_
    refine sv (yMove rfl) ?_
    refine sv (yAsg rfl) ?_
    refine sv (yAsg rfl) ?_
    refine nil ?_
    show Code.wp _ _ _ _ _
    refine wp_ret (blockR (thenR ?_))
    refine retQ (res2 rfl rfl rfl) ?_
    have hE : fromE b s frm hs = stB b s ∧ stB b s ≠ 0 := ⟨from_st c20, c20⟩
    rw [from_err (by rw [hE.1]; exact hE.2), hE.1]
    exact ⟨_, rfl, Sl.nil, hS.ext⟩
  ·
    simp only [Bool.and_eq_true, Bool.or_eq_true, Bool.and_eq_false_iff, Bool.or_eq_false_iff, decide_eq_true_eq, decide_eq_false_iff_not, Bool.not_eq_true, Bool.not_eq_false, Bool.not_not, Bool.not_eq_eq_eq_not, Bool.not_true, Bool.not_false, Bool.false_eq_true, Bool.true_eq_false, ne_eq, Decidable.not_not, not_false_eq_true, not_true_eq_false] at c20
    have hst : stB b s = 0 := by omega
    obtain ⟨hok, hso⟩ := st_ok hst
    have hnp := hok.npol
    refine seq ?_
    refine region ?_
    refine sv (yMove rfl) ?_
    refine scall Tryz.call52 (.cons rfl (.cons rfl (.cons rfl .nil))) c_out ?_
    rintro _ w ⟨rfl, hE⟩; replace hS := hS.step hE; clear hE
    refine sv (yAsg rfl) ?_
    refine nil ?_
    show Code.wp _ _ _ _ _
    refine cond rfl (fun c24 => ?_) (fun c24 => ?_)
    ·
      refine seq ?_
      refine region ?_
      refine sv (yAsg rfl) ?_
      refine sv (yAsg rfl) ?_
      refine nil ?_
      show Code.wp _ _ _ _ _
      refine wp_ret (blockR (thenR ?_))
      refine retQ (res2 rfl rfl rfl) ?_
      have hE : fromE b s frm hs = 7 ∧ (7 : Int) ≠ 0 := ⟨from_frm hst c24, by decide⟩
      rw [from_err (by rw [hE.1]; exact hE.2), hE.1]
      exact ⟨_, rfl, Sl.nil, hS.ext⟩
    ·
      refine seq ?_
      refine region ?_
      refine sv (yMove rfl) ?_
      refine sv (yLen rfl Tryz.underlying88) ?_
      refine scall Tryz.call52 (.cons rfl (.cons rfl (.cons rfl .nil))) c_out ?_
      rintro _ w ⟨rfl, hE⟩; replace hS := hS.step hE; clear hE
      refine sv (yAsg rfl) ?_
      refine nil ?_
      show Code.wp _ _ _ _ _
      refine cond rfl (fun c27 => ?_) (fun c27 => ?_)
      ·
        refine seq ?_
        refine region ?_
        refine sv (yAsg rfl) ?_
        refine sv (yAsg rfl) ?_
        refine nil ?_
        show Code.wp _ _ _ _ _
        refine wp_ret (blockR (thenR ?_))
        refine retQ (res2 rfl rfl rfl) ?_
        have hE : fromE b s frm hs = 3 ∧ (3 : Int) ≠ 0 := ⟨from_len hst c24 c27, by decide⟩
        rw [from_err (by rw [hE.1]; exact hE.2), hE.1]
        exact ⟨_, rfl, Sl.nil, hS.ext⟩
      ·
        have hhl := outB_false.1 c27
        have hfr := outB_false.1 c24
        refine skip ?_
        show Code.wp _ _ _ _ _
        refine seq ?_
        refine region ?_
        refine sv (yAsg rfl) ?_
        refine nil ?_
        show Code.wp _ _ _ _ _
        refine seq ?_
        refine seq ?_
        refine region ?_
        refine sv (yMove rfl) ?_
        refine sv (yLen rfl Tryz.underlying88) ?_
        refine sv (yMove rfl) ?_
        refine nil ?_
        show Code.wp _ _ _ _ _
        refine block ?_
        refine loop (fun f w zz => ∃ (k : Nat) (lv : Value) (vs : List Value), f 2 = .int .i64 frm ∧ f 4 = .pointer (some ⟨b4, 0, none⟩) ∧ f 5 = .pointer (some ⟨b5, 0, none⟩) ∧ f 8 = lv ∧ f 31 = .slice ah hs.length ch ∧ f 32 = .int .i64 (hs.length : Int) ∧ f 33 = .int .i64 (k : Int) ∧ f 10 = .bool ((hs.take k).any (lateH b s frm)) ∧ StX [] w0 w [packI (inI vs (fromL b s frm (hs.take k))), rowI (lv) 34 1 (fromL b s frm (hs.take k)).length vs, blk b5 [.int .i64 s.volume, .slice af s.filled.length cf] 87, blk b4 [.slice ar b.rows.length cr, .int .i64 b.leak, .int .i64 b.crest, .int .i64 b.over, .slice ap b.pols.length cp] 85] ∧ (k ≤ hs.length) ∧ (vs.length = (fromL b s frm (hs.take k)).length) ∧ ((firstR (runE b s) hs 0).2 = (firstR (runE b s) (hs.drop k) k).2) ∧ (∀ y ∈ hs.take k, y.length ≤ 300) ∧ zz = hs.length - k) _ ⟨_, rfl, 0, _, [], rfl, rfl, rfl, rfl, rfl, rfl, rfl, rfl, (StX.pack (M := []) (hS.nilrow 34 1)), (Nat.zero_le _), (rfl), (rfl), (fun i hi => by simp at hi), rfl⟩ ?_
        clear hS
        rintro f w _ ⟨k, lv, vs, h2, h4, h5, h8, h31, h32, h33, h10, hS, hk, hvl, hI, hln, rfl⟩
        refine seq ?_
        refine region ?_
        refine sv (yLss h33 h32) ?_
        refine nil ?_
        show Code.wp _ _ _ _ _
        refine seq ?_
        refine cond rfl (fun c34 => ?_) (fun c34 => ?_)
        ·
          simp only [Bool.and_eq_true, Bool.or_eq_true, Bool.and_eq_false_iff, Bool.or_eq_false_iff, decide_eq_true_eq, decide_eq_false_iff_not, Bool.not_eq_true, Bool.not_eq_false, Bool.not_not, Bool.not_eq_eq_eq_not, Bool.not_true, Bool.not_false, Bool.false_eq_true, Bool.true_eq_false, ne_eq, Decidable.not_not, not_false_eq_true, not_true_eq_false] at c34
          obtain ⟨x, hx, hd⟩ := drop_of (l := hs) (k := k) (by omega)
          obtain ⟨bx, ox, cx, hax, hlx, hcx, hRx, -⟩ := sl_at hh hx
          obtain ⟨xv, rfl, hxs⟩ := id hRx
          have hzl : (fromL b s frm (hs.take k)).length = k := by rw [fromL_len, List.length_take]; omega
          obtain ⟨alv, clv, rfl⟩ := row_shape (hS.row lv)
          refine skip ?_
          show Code.wp _ _ _ _ _
          refine seq ?_
          refine block ?_
          refine seq ?_
          refine region ?_
          refine sv (yIxa h31 hax h33 Tryz.runUnderlying88 Tryz.sizeOf94 (by omega) (by omega)) ?_
          refine sv (yLd rfl Tryz.isAgg94 ((hcx.ext hS.ext).one)) ?_
          refine sv (yAsg rfl) ?_
          refine nil ?_
          show Code.wp _ _ _ _ _
          refine seq ?_
          refine region ?_
          refine sv (yLdBA h4 Tryz.isAgg85 Tryz.sizeOf85 (hS.at _) rfl rfl) ?_
          refine sv (yLdBA h5 Tryz.isAgg87 Tryz.sizeOf87 (hS.at _) rfl rfl) ?_
          refine sv (yMove rfl) ?_
          refine scall Tryz.call46 (.cons rfl (.cons rfl (.cons rfl .nil))) (c_Floods (hg.ext hS.ext) (h.ext hS.ext) (hsq.ext hS.ext) (hxs.ext RBtk.stays hS.ext)) ?_
          rintro _ w (⟨hne, rfl, hM⟩ | ⟨h0, v, rfl, hM⟩)
          ·
            replace hS := hS.step hM; clear hM
            refine sv (yMove rfl) ?_
            refine sv (yExt rfl rfl) ?_
            refine sv (yExt rfl rfl) ?_
            refine sv (yAsg rfl) ?_
            refine sv (yAsg rfl) ?_
            refine nil ?_
            show Code.wp _ _ _ _ _
            refine seq ?_
            refine seq ?_
            refine region ?_
            refine sv (yMove rfl) ?_
            refine sv (yNeq rfl rfl) ?_
            refine nil ?_
            show Code.wp _ _ _ _ _
            refine cond rfl (fun c45 => ?_) (fun c45 => ?_)
            ·
              simp only [Bool.and_eq_true, Bool.or_eq_true, Bool.and_eq_false_iff, Bool.or_eq_false_iff, decide_eq_true_eq, decide_eq_false_iff_not, Bool.not_eq_true, Bool.not_eq_false, Bool.not_not, Bool.not_eq_eq_eq_not, Bool.not_true, Bool.not_false, Bool.false_eq_true, Bool.true_eq_false, ne_eq, Decidable.not_not, not_false_eq_true, not_true_eq_false] at c45
              refine seq ?_
              refine region ?_
              refine sv (yMove rfl) ?_
              refine sv (yAsg rfl) ?_
              refine sv (yAsg rfl) ?_
              refine nil ?_
              show Code.wp _ _ _ _ _
              refine wp_ret (thenR (blockR (thenR (thenR (blockR (thenR ?_))))))
              refine retQ (res2 rfl rfl rfl) ?_
              have hE : fromE b s frm hs = runE b s x ∧ runE b s x ≠ 0 := ⟨from_run hst c24 c27 (by rw [hI, hd, firstR, if_pos hne]) hne, hne⟩
              rw [from_err (by rw [hE.1]; exact hE.2), hE.1]
              exact ⟨_, rfl, Sl.nil, hS.ext⟩
            ·
              simp only [Bool.and_eq_true, Bool.or_eq_true, Bool.and_eq_false_iff, Bool.or_eq_false_iff, decide_eq_true_eq, decide_eq_false_iff_not, Bool.not_eq_true, Bool.not_eq_false, Bool.not_not, Bool.not_eq_eq_eq_not, Bool.not_true, Bool.not_false, Bool.false_eq_true, Bool.true_eq_false, ne_eq, Decidable.not_not, not_false_eq_true, not_true_eq_false] at c45
              exact absurd c45 hne
          ·
            replace hS := hS.call1 hM; clear hM
            obtain ⟨av, cv, rfl⟩ := row_shape (hS.row v)
            have hxl := (run_ok h0).2.2.1
            refine sv (yMove rfl) ?_
            refine sv (yExt rfl rfl) ?_
            refine sv (yExt rfl rfl) ?_
            refine sv (yAsg rfl) ?_
            refine sv (yAsg rfl) ?_
            refine nil ?_
            show Code.wp _ _ _ _ _
            refine seq ?_
            refine seq ?_
            refine region ?_
            refine sv (yMove rfl) ?_
            refine sv (yNeq rfl rfl) ?_
            refine nil ?_
            show Code.wp _ _ _ _ _
            refine cond rfl (fun c45 => ?_) (fun c45 => ?_)
            ·
              exact absurd c45 (by decide)
            ·
              refine skip ?_
              show Code.wp _ _ _ _ _
              refine seq ?_
              refine seq ?_
              refine region ?_
              refine sv (yMove rfl) ?_
              refine sv (yLen rfl Tryz.underlying34) ?_
              refine sv (yMove rfl) ?_
              refine nil ?_
              show Code.wp _ _ _ _ _
              refine block ?_
              refine loop (fun f w zz => ∃ (j : Nat), f 2 = .int .i64 frm ∧ f 4 = .pointer (some ⟨b4, 0, none⟩) ∧ f 5 = .pointer (some ⟨b5, 0, none⟩) ∧ f 8 = .slice alv (fromL b s frm (hs.take k)).length clv ∧ f 31 = .slice ah hs.length ch ∧ f 32 = .int .i64 (hs.length : Int) ∧ f 33 = .int .i64 (k : Int) ∧ f 10 = .bool (((hs.take k).any (lateH b s frm)) || ((floodsF b s x).take j).any (lateF frm)) ∧ f 13 = .slice av b.pols.length cv ∧ f 47 = .slice av b.pols.length cv ∧ f 48 = .int .i64 (b.pols.length : Int) ∧ f 49 = .int .i64 (j : Int) ∧ StX [] w0 w [rowI (.slice av b.pols.length cv) 3 1 b.pols.length ((addP frm (floodsF b s x) j).flatMap Bx.encI), packI (inI vs (fromL b s frm (hs.take k))), rowI (.slice alv (fromL b s frm (hs.take k)).length clv) 34 1 (fromL b s frm (hs.take k)).length vs, blk b5 [.int .i64 s.volume, .slice af s.filled.length cf] 87, blk b4 [.slice ar b.rows.length cr, .int .i64 b.leak, .int .i64 b.crest, .int .i64 b.over, .slice ap b.pols.length cp] 85] ∧ (j ≤ b.pols.length) ∧ zz = b.pols.length - j) _ ⟨_, rfl, 0, h2, h4, h5, h8, h31, h32, h33, (h10.trans (congrArg Value.bool (by simp))), rfl, rfl, rfl, rfl, (by rw [addP_0]; exact hS), (Nat.zero_le _), rfl⟩ ?_
              clear hS
              rintro f w _ ⟨j, h2, h4, h5, h8, h31, h32, h33, h10, h13, h47, h48, h49, hS, hj, rfl⟩
              refine seq ?_
              refine region ?_
              refine sv (yLss h49 h48) ?_
              refine nil ?_
              show Code.wp _ _ _ _ _
              refine seq ?_
              refine cond rfl (fun c50 => ?_) (fun c50 => ?_)
              ·
                simp only [Bool.and_eq_true, Bool.or_eq_true, Bool.and_eq_false_iff, Bool.or_eq_false_iff, decide_eq_true_eq, decide_eq_false_iff_not, Bool.not_eq_true, Bool.not_eq_false, Bool.not_not, Bool.not_eq_eq_eq_not, Bool.not_true, Bool.not_false, Bool.false_eq_true, Bool.true_eq_false, ne_eq, Decidable.not_not, not_false_eq_true, not_true_eq_false] at c50
                obtain ⟨nn, hn, -⟩ := drop_of (l := (floodsF b s x)) (k := j) (by rw [floodsF_len]; omega)
                have hnb := fl_mem (List.mem_of_getElem? hn)
                obtain ⟨gv, rfl, -⟩ := row_get (hS.row (.slice av b.pols.length cv)) (by omega)
                refine skip ?_
                show Code.wp _ _ _ _ _
                refine seq ?_
                refine block ?_
                refine seq ?_
                refine region ?_
                refine sv (yMove h49) ?_
                refine sv (yIx0 (m := j) h47 h49 Tryz.runUnderlying34 Tryz.sizeOf3 (by omega)) ?_
                refine sv (yLd rfl Tryz.isAgg3 ((flat_cells0 (enc := Bx.encI) encI_len (row_at (hS.row (.slice (some ⟨gv, 0, none⟩) b.pols.length cv)) rfl (by omega)) (addP_at hn)).one)) ?_
                refine sv (yAsg rfl) ?_
                refine sv (yAsg rfl) ?_
                refine nil ?_
                show Code.wp _ _ _ _ _
                refine seq ?_
                refine region ?_
                refine sv (yMove rfl) ?_
                refine sv (yGeq rfl rfl) ?_
                refine nil ?_
                show Code.wp _ _ _ _ _
                refine cond rfl (fun c55 => ?_) (fun c55 => ?_)
                ·
                  simp only [Bool.and_eq_true, Bool.or_eq_true, Bool.and_eq_false_iff, Bool.or_eq_false_iff, decide_eq_true_eq, decide_eq_false_iff_not, Bool.not_eq_true, Bool.not_eq_false, Bool.not_not, Bool.not_eq_eq_eq_not, Bool.not_true, Bool.not_false, Bool.false_eq_true, Bool.true_eq_false, ne_eq, Decidable.not_not, not_false_eq_true, not_true_eq_false] at c55
                  refine seq ?_
                  refine region ?_
                  refine sv (yMove h13) ?_
                  refine sv (yMove rfl) ?_
                  refine sv (yIx0 (m := j) rfl rfl Tryz.runUnderlying34 Tryz.sizeOf3 (by omega)) ?_
                  refine sv (yLd rfl Tryz.isAgg3 ((flat_cells0 (enc := Bx.encI) encI_len (row_at (hS.row (.slice (some ⟨gv, 0, none⟩) b.pols.length cv)) rfl (by omega)) (addP_at hn)).one)) ?_
                  refine sv (yMove h2) ?_
                  refine sv (yAdd rfl rfl ⟨by omega, by omega⟩) ?_
                  refine sv (yIx0 (m := j) rfl rfl Tryz.runUnderlying34 Tryz.sizeOf3 (by omega)) ?_
                  refine srst (m := b.pols.length) (cap := cv) (sz := 1) (vs := Bx.encI (nn + frm)) hS rfl rfl Tryz.sizeOf3 rfl rfl (by omega) rfl ?_; clear hS; intro w hS
                  rw [splice_enc encI_len _ _ _ (by rw [addP_len, floodsF_len]; omega)] at hS
                  refine nil ?_
                  show Code.wp _ _ _ _ _
                  refine region ?_
                  refine sv (yMove h10) ?_
                  refine sv (yMove rfl) ?_
                  refine sg rfl rfl rfl (fun g => (yMove h13)) (fun v65 g65 => ?_)
                  refine sg rfl rfl rfl (fun g => (yMove rfl)) (fun v66 g66 => ?_)
                  refine sg rfl rfl rfl (fun g => (yIx0 (m := j) (g65.1 g) (g66.1 g) Tryz.runUnderlying34 Tryz.sizeOf3 (by omega))) (fun v67 g67 => ?_)
                  refine sg rfl rfl rfl (fun g => (yLd (g67.1 g) Tryz.isAgg3 ((flat_cells0 (enc := Bx.encI) encI_len (row_at (hS.row (.slice (some ⟨gv, 0, none⟩) b.pols.length cv)) rfl (by omega)) (List.getElem?_set_self (by rw [addP_len, floodsF_len]; omega))).one))) (fun v68 g68 => ?_)
                  refine sg rfl rfl rfl (fun g => (yGtr (g68.1 g) rfl)) (fun v69 g69 => ?_)
                  refine sv (yOr rfl rfl (fun hB => (g69.1 hB))) ?_
                  refine sv (yAsg rfl) ?_
                  refine nil ?_
                  show Code.wp _ _ _ _ _
                  refine region ?_
                  refine sv (yAdd h49 rfl ⟨by omega, by omega⟩) ?_
                  refine sv (yMove rfl) ?_
                  refine nil ?_
                  exact ⟨_, _, rfl, ⟨j + 1, h2, h4, h5, h8, h31, h32, h33, (rfl.trans (congrArg Value.bool (by rw [any_snoc hn, lateF_at c55, ← Bool.or_assoc]))), h13, h47, h48, rfl, (by rw [addP_succ hn, addF_at c55]; exact hS), (by omega), rfl⟩, by omega⟩
                ·
                  simp only [Bool.and_eq_true, Bool.or_eq_true, Bool.and_eq_false_iff, Bool.or_eq_false_iff, decide_eq_true_eq, decide_eq_false_iff_not, Bool.not_eq_true, Bool.not_eq_false, Bool.not_not, Bool.not_eq_eq_eq_not, Bool.not_true, Bool.not_false, Bool.false_eq_true, Bool.true_eq_false, ne_eq, Decidable.not_not, not_false_eq_true, not_true_eq_false] at c55
                  refine skip ?_
                  show Code.wp _ _ _ _ _
                  refine region ?_
                  refine sv (yAdd h49 rfl ⟨by omega, by omega⟩) ?_
                  refine sv (yMove rfl) ?_
                  refine nil ?_
                  exact ⟨_, _, rfl, ⟨j + 1, h2, h4, h5, h8, h31, h32, h33, (h10.trans (congrArg Value.bool (by rw [any_snoc hn, lateF_no c55, Bool.or_false]))), h13, h47, h48, rfl, (by rw [addP_keep hn (addF_no c55)]; exact hS), (by omega), rfl⟩, by omega⟩
              ·
                simp only [Bool.and_eq_true, Bool.or_eq_true, Bool.and_eq_false_iff, Bool.or_eq_false_iff, decide_eq_true_eq, decide_eq_false_iff_not, Bool.not_eq_true, Bool.not_eq_false, Bool.not_not, Bool.not_eq_eq_eq_not, Bool.not_true, Bool.not_false, Bool.false_eq_true, Bool.true_eq_false, ne_eq, Decidable.not_not, not_false_eq_true, not_true_eq_false] at c50
                obtain rfl : j = b.pols.length := by omega
                have hfn := floodsF_len b s x
                refine exit ?_
                show Code.wp _ _ _ _ _
                refine region ?_
                refine sv (yMove h8) ?_
                refine sv (yMove h13) ?_
                refine sbslice hS Tryz.underlying24 Tryz.sizeOf34 rfl Tryz.zeroValue34 rfl (.cons rfl rfl .nil) rfl ?_; clear hS; intro b74 w hS
                refine sapp (bytes := 24) (size := 1) (v := (.slice alv (fromL b s frm (hs.take k)).length clv)) (m := 1) hS rfl rfl Tryz.underlying24 ti34 rfl rfl rfl rfl (by decide) (blk_cells (hS.at _)) rfl rfl (by omega) (by omega) ?_; clear hS; intro v75 w hS
                refine sv (yAsg rfl) ?_
                refine nil ?_
                show Code.wp _ _ _ _ _
                refine region ?_
                refine sv (yAdd h33 rfl ⟨by omega, by omega⟩) ?_
                refine sv (yMove rfl) ?_
                refine nil ?_
                exact ⟨_, _, rfl, ⟨k + 1, _, vs ++ [.slice av b.pols.length cv], h2, h4, h5, rfl, h31, h32, rfl, (h10.trans (congrArg Value.bool (by rw [any_snoc hx, ← hfn, List.take_length]; rfl))), (by rw [fromL_snoc hx, inI_snoc hvl, List.length_append]; unfold inR; rw [List.length_map, floodsF_len, ← addP_all, floodsF_len]; exact (hS.sub (.cons _ (List.Sublist.refl _))).packs), (by omega), (by rw [fromL_snoc hx, List.length_append, List.length_append, hvl]; rfl), (by rw [hI, hd, firstR, if_neg (fun k => k h0)]; rfl), (fun y hy => by rw [take_snoc hx] at hy; rcases List.mem_append.1 hy with hy | hy; exact hln y hy; rw [List.mem_singleton.1 hy]; exact (run_ok h0).2.2.1), rfl⟩, by omega⟩
        ·
          simp only [Bool.and_eq_true, Bool.or_eq_true, Bool.and_eq_false_iff, Bool.or_eq_false_iff, decide_eq_true_eq, decide_eq_false_iff_not, Bool.not_eq_true, Bool.not_eq_false, Bool.not_not, Bool.not_eq_eq_eq_not, Bool.not_true, Bool.not_false, Bool.false_eq_true, Bool.true_eq_false, ne_eq, Decidable.not_not, not_false_eq_true, not_true_eq_false] at c34
          obtain rfl : k = hs.length := by omega
          rw [List.take_length] at hS hvl hln h10
          rw [List.drop_length] at hI
          refine exit ?_
          show Code.wp _ _ _ _ _
          refine seq ?_
          refine seq ?_
          refine region ?_
          refine sv (yMove h10) ?_
          refine nil ?_
          show Code.wp _ _ _ _ _
          refine cond rfl (fun c77 => ?_) (fun c77 => ?_)
          ·
            have hE := from_late hst c24 c27 (show (firstR (runE b s) hs 0).2 = 0 by rw [hI]; rfl)
            rw [if_pos c77] at hE
            refine seq ?_
            refine region ?_
            refine sv (yAsg rfl) ?_
            refine sv (yAsg rfl) ?_
            refine nil ?_
            show Code.wp _ _ _ _ _
            refine wp_ret (thenR ?_)
            refine retQ (res2 rfl rfl rfl) ?_
            rw [from_err (by rw [hE]; decide), hE]
            exact ⟨_, rfl, Sl.nil, hS.ext⟩
          ·
            have hE := from_late hst c24 c27 (show (firstR (runE b s) hs 0).2 = 0 by rw [hI]; rfl)
            rw [if_neg (by rw [c77]; decide)] at hE
            refine skip ?_
            show Code.wp _ _ _ _ _
            refine seq ?_
            refine region ?_
            refine sv (yMove h8) ?_
            refine sv (yAsg rfl) ?_
            refine sv (yAsg rfl) ?_
            refine nil ?_
            show Code.wp _ _ _ _ _
            refine wp_ret ?_
            refine retQ (res2 rfl rfl rfl) ?_
            rw [from_in hE]
            exact ⟨_, rfl, sl_rows2 (fun w v z h => ⟨v, rfl, h⟩) hvl (hS.row lv) (fun it hit => hS.inpack (by simp) hit) (fromL_I64 c24 hln), hS.ext⟩
end Go.Proofs.YtmoilbakmlekbaaGreatDoor

/- part A44 -/
namespace Bx
open Go Go.RowKit
theorem nine_of {cs : List Value} (h : cs.length = 9) : ∃ a b c d e f g i j, cs = [a, b, c, d, e, f, g, i, j] := by
  match cs, h with
  | [a, b, c, d, e, f, g, i, j], _ => exact ⟨a, b, c, d, e, f, g, i, j, rfl⟩
structure Wtr where
  basin : Bas
  state : BSt
  frm : Int
  hs : List (List BTk)
def RTksW (w : World) (cs : List Value) (l : List BTk) : Prop := ∃ v, cs = [v] ∧ Sl w 3 RBtk v l ∧ l.length * 24 ≤ 140737488351232
def RWtr (w : World) (cs : List Value) (x : Wtr) : Prop := ∃ rv pv fv hv, cs = [rv, .int .i64 x.basin.leak, .int .i64 x.basin.crest, .int .i64 x.basin.over, pv, .int .i64 x.state.volume, fv, .int .i64 x.frm, hv] ∧
  RBas w [rv, .int .i64 x.basin.leak, .int .i64 x.basin.crest, .int .i64 x.basin.over, pv] x.basin ∧ RBst w [.int .i64 x.state.volume, fv] x.state ∧ I64 x.frm ∧ Sl w 1 RTksW hv x.hs
theorem tks_w {w : World} {v : Value} {l : List (List BTk)} (h : Sl w 1 RTksW v l) : Sl w 1 RTks v l := by
  obtain ⟨a, c, rfl, h1, h2, h3⟩ := h
  exact ⟨a, c, rfl, h1, h2, fun i hi => by obtain ⟨b, o, cs, k1, k2, k3, v, k4, k5, k6⟩ := h3 i hi; exact ⟨b, o, cs, k1, k2, k3, v, k4, k5⟩⟩
theorem tks_r {w : World} {v : Value} {l : List (List BTk)} (h : Sl w 1 RTksW v l) : ∀ x ∈ l, x.length * 24 ≤ 140737488351232 := sl_all h (fun _ _ ⟨_, _, _, k⟩ => k)
def RTwoS (_ : World) (cs : List Value) (p : Int × Int) : Prop := cs = [.int .u16 p.1, .int .u16 p.2] ∧ (0 ≤ p.1 ∧ p.1 ≤ 65535) ∧ 0 ≤ p.2 ∧ p.2 ≤ 65535
theorem RTwoS.stays : Stays RTwoS := fun _ _ _ _ _ h => h
def worT (t : BTk) (m : Int × Int) : BTk := ⟨min 20000 (wr (t.outer + m.1)), min 10000000 (wr (t.river + m.2)), t.out⟩
def moreAt (more : List (Int × Int)) (i : Nat) : Int × Int := more.getD (i % more.length) (0, 0)
def worN (more : List (Int × Int)) (t : BTk) (i : Nat) : BTk := if 0 < more.length then worT t (moreAt more i) else t
def worL (more : List (Int × Int)) (h : List BTk) (k : Nat) : List BTk := (List.range k).map fun i => worN more (tkL h i) i
theorem worN_y {more : List (Int × Int)} {t : BTk} {i : Nat} (h : 0 < (more.length : Int)) : worN more t i = worT t (moreAt more i) := if_pos (by omega)
theorem worN_n {more : List (Int × Int)} {t : BTk} {i : Nat} (h : ¬ 0 < (more.length : Int)) : worN more t i = t := if_neg (by omega)
theorem moreAt_get {more : List (Int × Int)} {i : Nat} (h : 0 < (more.length : Int)) : more[i % more.length]? = some (moreAt more i) := by
  have := Nat.mod_lt i (show 0 < more.length by omega)
  simp [moreAt, List.getD, this]
theorem worL_succ (more : List (Int × Int)) (h : List BTk) (k : Nat) : worL more h (k + 1) = worL more h k ++ [worN more (tkL h k) k] := by unfold worL; rw [List.range_succ, List.map_append]; rfl
theorem worL_len (more : List (Int × Int)) (h : List BTk) (k : Nat) : (worL more h k).length = k := by simp [worL]
theorem worL_at {more : List (Int × Int)} {h : List BTk} {k i : Nat} (hi : i < k) : tkL (worL more h k) i = worN more (tkL h i) i := tkL_at (by simp [worL, hi])
def TkI (t : BTk) : Prop := I64 t.outer ∧ I64 t.river ∧ I64 t.out
theorem wor_I {more : List (Int × Int)} {h : List BTk} (hh : ∀ t ∈ h, TkI t) {k : Nat} (hk : k ≤ h.length) : ∀ t ∈ worL more h k, TkI t := by
  intro t ht
  obtain ⟨i, hi, rfl⟩ := List.mem_map.1 ht
  have hi := List.mem_range.1 hi
  have hm := hh _ (List.mem_of_getElem? (tkL_get (show i < h.length by omega)))
  unfold worN
  split
  · have h1 := wr_64 ((tkL h i).outer + (moreAt more i).1)
    have h2 := wr_64 ((tkL h i).river + (moreAt more i).2)
    obtain ⟨m1, m2, m3⟩ := hm
    unfold worT
    refine ⟨?_, ?_, m3⟩
    · show I64 (min 20000 _); unfold I64 at *; omega
    · show I64 (min 10000000 _); unfold I64 at *; omega
  · exact hm
theorem wor_le {more : List (Int × Int)} {h : List BTk} (hm : ∀ p ∈ more, (0 ≤ p.1 ∧ p.1 ≤ 65535) ∧ 0 ≤ p.2 ∧ p.2 ≤ 65535) (hk : ∀ i, i < h.length → TkOk (tkL h i)) : LeL h (worL more h h.length) := by
  refine ⟨(worL_len ..).symm, fun i hi => ?_⟩
  rw [worL_at hi]
  have ht := hk i hi
  obtain ⟨q1, q2, q3⟩ := ht
  unfold worN
  split
  · next h0 =>
    have hp := hm _ (List.mem_of_getElem? (moreAt_get (i := i) (show 0 < (more.length : Int) by omega)))
    have e1 : wr ((tkL h i).outer + (moreAt more i).1) = (tkL h i).outer + (moreAt more i).1 := wr_in ⟨by omega, by omega⟩
    have e2 : wr ((tkL h i).river + (moreAt more i).2) = (tkL h i).river + (moreAt more i).2 := wr_in ⟨by omega, by omega⟩
    refine ⟨?_, ?_, rfl⟩
    · show _ ≤ min 20000 (wr _); rw [e1]; omega
    · show _ ≤ min 10000000 (wr _); rw [e2]; omega
  · exact ⟨Int.le_refl _, Int.le_refl _, rfl⟩
theorem two_tks {w : World} {b : Nat} {T : TypeId} {v v' : Value} {h h' : List BTk} (hb : w.heap[b]? = some (.cells [v, v'].toArray T (0, 0))) (h1 : Sl w 3 RBtk v h) (h2 : Sl w 3 RBtk v' h') : Sl w 1 RTks (.slice (some ⟨b, 0, none⟩) 2 2) [h, h'] :=
  sl_of_blk (css := [[v], [v']]) hb rfl ⟨rfl, ⟨v, rfl, h1⟩, rfl, ⟨v', rfl, h2⟩, trivial⟩ (by simp) rfl
theorem btk3 (x : BTk) : (btkC x).length = 3 := rfl
theorem sl_tks {w : World} {e : TypeId} {v : Value} {n : Nat} {l : List BTk} (h : w.ownsRow 0 e 3 v n (l.flatMap btkC)) (hn : l.length = n) (hok : ∀ x ∈ l, TkI x) : Sl w 3 RBtk v l := by
  subst hn
  exact row_sl btk3 h hok
theorem fromR_e (b : Bas) (s : BSt) (frm : Int) (hs : List (List BTk)) : (fromR b s frm hs).2 = fromE b s frm hs := by
  unfold fromR
  split
  · rfl
  · next h => exact (Decidable.not_not.1 h).symm
def flz (b : Bas) (s : BSt) (frm : Int) (h : List BTk) : List Int := (floodsF b s h).map (addF frm)
theorem flz_len (b : Bas) (s : BSt) (frm : Int) (h : List BTk) : (flz b s frm h).length = b.pols.length := by simp [flz, floodsF_len]
theorem flo_at {b : Bas} {s : BSt} {h : List BTk} {i : Nat} (hi : i < b.pols.length) : (floodsF b s h)[i]? = some (firstFl b s h i) := by simp [floodsF, hi]
theorem flz_at {b : Bas} {s : BSt} {frm : Int} {h : List BTk} {i : Nat} (hi : i < b.pols.length) : (flz b s frm h)[i]? = some (addF frm (firstFl b s h i)) := by simp [flz, flo_at hi]
/-- What the statement says of a history and one with more water. -/
theorem floods_law {b : Bas} {s : BSt} {frm : Int} {h : List BTk} {more : List (Int × Int)} (hE : fromE b s frm [h, worL more h h.length] = 0) (hm : ∀ p ∈ more, (0 ≤ p.1 ∧ p.1 ≤ 65535) ∧ 0 ≤ p.2 ∧ p.2 ≤ 65535) :
    BasOk b ∧ runE b s h = 0 ∧ (0 ≤ frm ∧ frm ≤ 200000) ∧ ∀ i, i < b.pols.length → (-1 ≤ firstFl b s h i ∧ firstFl b s h i < 300) ∧ (firstFl b s h i < 0 → addF frm (firstFl b s h i) = -1) ∧ (0 ≤ firstFl b s h i → addF frm (firstFl b s h i) = firstFl b s h i + frm ∧ 0 ≤ addF frm (firstFl b s (worL more h h.length) i) ∧ addF frm (firstFl b s (worL more h h.length) i) ≤ addF frm (firstFl b s h i)) := by
  obtain ⟨h1, h2, h3, h4, h5⟩ := fromE_0 hE
  have r1 := h4 h (by simp)
  have r2 := h4 (worL more h h.length) (by simp)
  obtain ⟨k1, k2, k3, k4⟩ := run_ok r1
  obtain ⟨-, -, -, j4⟩ := run_ok r2
  rw [worL_len] at j4
  have hf := outB_false.1 h2
  refine ⟨k1, r1, hf, fun i hi => ?_⟩
  have hb := firstFl_bd b s h i
  refine ⟨by omega, fun hn => by rw [addF_no (by omega)]; omega, fun hn => ?_⟩
  have hle := wor_le hm (h := h) (fun j hj => tk_ok (stepE_ok (k4 j hj)).1)
  obtain ⟨m1, m2⟩ := flood_mono k1 k2 hle k4 j4 hi hn
  rw [addF_at hn, addF_at m1]
  omega
end Bx

/- part Aw59 -/
namespace Go.Proofs.YtmoilbakmlekbaaGreatDoor
open Go Bx
theorem c_FloodsS {b : Bas} {s : BSt} {l : List BTk} {cs qs : List Value} {lv : Value} {w0 : World} (hg : Glb w0) (h : RBas w0 cs b) (h2 : RBst w0 qs s) (hl : Sl w0 3 RBtk lv l) : CE Tryz.prog 46 #[.agg cs.toArray, .agg qs.toArray, lv] w0 fun u w' => ∃ v, u = .tuple #[v, .int .i64 (runE b s l)] ∧ (runE b s l = 0 → Sl w' 1 RInt v (floodsF b s l)) ∧ Ext w0 w' :=
  CE.mono (c_Floods hg h h2 hl) fun u w' hh => by
    rcases hh with ⟨hne, rfl, hE⟩ | ⟨h0, v, rfl, hS⟩
    · exact ⟨_, rfl, fun k => absurd k hne, hE⟩
    · refine ⟨v, by rw [h0], fun _ => sl_ints (hS.row v) (floodsF_len ..) (fun x hx => ?_), hS.ext⟩
      have := fl_mem hx
      have := (run_ok h0).2.2.1
      constructor <;> omega
set_option maxHeartbeats 4000000 in
/-- barrage/barragelaw11.AlarmFloods -/
theorem w_AlarmFloods {x : Wtr} {mo : List (Int × Int)} {cs : List Value} {mv : Value} {w0 : World} (hg : Glb w0) (h : RWtr w0 cs x) (hm : Sl w0 2 RTwoS mv mo) : CV Tryz.prog 17 #[.agg cs.toArray, mv] w0 (.bool true) := by
  obtain ⟨rv, pv, fv, hv, rfl, hb, hst, hfI, hhw⟩ := id h
  have hhs := tks_w hhw
  have hhr := tks_r hhw
  obtain ⟨ah, ch, rfl, -⟩ := id hhs
  obtain ⟨am, cm, rfl, hmcap, hmmx, hmel⟩ := id hm
  refine enter Tryz.func17 rfl Tryz.ntmps17 rfl ?_
  have hS := St.start w0
  refine seq ?_
  refine region ?_
  refine sbox hS rfl rfl ?_; clear hS; intro b2 w hS
  refine sv (yAsg rfl) ?_
  refine nil ?_
  show Code.wp _ _ _ _ _
  refine seq ?_
  refine seq ?_
  refine region ?_
  refine sv (fa90_3 rfl) ?_
  refine sv (yLdB rfl Tryz.isAgg88 (hS.at _) rfl) ?_
  refine sv (yLen rfl Tryz.underlying88) ?_
  refine sv (yEql rfl rfl) ?_
  refine nil ?_
  show Code.wp _ _ _ _ _
  refine cond rfl (fun c18 => ?_) (fun c18 => ?_)
  ·
    simp only [Bool.and_eq_true, Bool.or_eq_true, Bool.and_eq_false_iff, Bool.or_eq_false_iff, decide_eq_true_eq, decide_eq_false_iff_not, Bool.not_eq_true, Bool.not_eq_false, Bool.not_not, Bool.not_eq_eq_eq_not, Bool.not_true, Bool.not_false, Bool.false_eq_true, Bool.true_eq_false, ne_eq, Decidable.not_not, not_false_eq_true, not_true_eq_false] at c18
    refine seq ?_
    refine region ?_
    refine scall Tryz.call20 .nil (c_Awake (hg.ext hS.ext)) ?_
    rintro _ w ⟨rfl, hE⟩; replace hS := hS.step hE; clear hE
    refine sv (yAsg rfl) ?_
    refine nil ?_
    show Code.wp _ _ _ _ _
    refine wp_ret (thenR ?_)
    exact retV (res1 rfl rfl) hS.ext
  ·
    simp only [Bool.and_eq_true, Bool.or_eq_true, Bool.and_eq_false_iff, Bool.or_eq_false_iff, decide_eq_true_eq, decide_eq_false_iff_not, Bool.not_eq_true, Bool.not_eq_false, Bool.not_not, Bool.not_eq_eq_eq_not, Bool.not_true, Bool.not_false, Bool.false_eq_true, Bool.true_eq_false, ne_eq, Decidable.not_not, not_false_eq_true, not_true_eq_false] at c18
    obtain ⟨h0, hx0, -⟩ := drop_of (l := x.hs) (k := 0) (by omega)
    obtain ⟨bh, oh, chh, hah, hlh, hch, hRh, -⟩ := sl_at hhs hx0
    obtain ⟨v0, rfl, hs0⟩ := hRh
    obtain ⟨a0, c0, rfl, h0cap, h0mx, -⟩ := id hs0
    have h0r := hhr h0 (List.mem_of_getElem? hx0)
    refine skip ?_
    show Code.wp _ _ _ _ _
    refine seq ?_
    refine region ?_
    refine sv (fa90_3 rfl) ?_
    refine sv (yLdB rfl Tryz.isAgg88 (hS.at _) rfl) ?_
    refine sv (yIxa rfl hah rfl Tryz.runUnderlying88 Tryz.sizeOf94 (by omega) (by omega)) ?_
    refine sv (yLd rfl Tryz.isAgg94 ((hch.ext hS.ext).one)) ?_
    refine sv (yAsg rfl) ?_
    refine nil ?_
    show Code.wp _ _ _ _ _
    refine seq ?_
    refine region ?_
    refine sv (yAsg rfl) ?_
    refine nil ?_
    show Code.wp _ _ _ _ _
    refine seq ?_
    refine seq ?_
    refine region ?_
    refine sv (yAsg rfl) ?_
    refine nil ?_
    show Code.wp _ _ _ _ _
    refine block ?_
    refine loop (fun f w zz => ∃ (k : Nat) (wv : Value), f 1 = .slice am mo.length cm ∧ f 2 = .pointer (some ⟨b2, 0, none⟩) ∧ f 5 = .slice a0 h0.length c0 ∧ f 6 = wv ∧ f 7 = .int .i64 (k : Int) ∧ StX [] w0 w [rowI (wv) 96 3 k ((worL mo h0 k).flatMap btkC), blk b2 [rv, .int .i64 x.basin.leak, .int .i64 x.basin.crest, .int .i64 x.basin.over, pv, .int .i64 x.state.volume, fv, .int .i64 x.frm, .slice ah x.hs.length ch] 90] ∧ (k ≤ h0.length) ∧ zz = h0.length - k) _ ⟨_, rfl, 0, _, rfl, rfl, rfl, rfl, rfl, (hS.nilrow 96 3), (Nat.zero_le _), rfl⟩ ?_
    clear hS
    rintro f w _ ⟨k, wv, h1, h2, h5, h6, h7, hS, hk, rfl⟩
    refine seq ?_
    refine seq ?_
    refine region ?_
    refine sv (yMove h7) ?_
    refine sv (yMove h5) ?_
    refine sv (yLen rfl Tryz.underlying94) ?_
    refine sv (yLss rfl rfl) ?_
    refine nil ?_
    show Code.wp _ _ _ _ _
    refine cond rfl (fun c27 => ?_) (fun c27 => ?_)
    ·
      simp only [Bool.and_eq_true, Bool.or_eq_true, Bool.and_eq_false_iff, Bool.or_eq_false_iff, decide_eq_true_eq, decide_eq_false_iff_not, Bool.not_eq_true, Bool.not_eq_false, Bool.not_not, Bool.not_eq_eq_eq_not, Bool.not_true, Bool.not_false, Bool.false_eq_true, Bool.true_eq_false, ne_eq, Decidable.not_not, not_false_eq_true, not_true_eq_false] at c27
      have hkl : k < h0.length := by omega
      obtain ⟨bx, ox, cx, hax, hlx, hcx, hRx, -⟩ := sl_at hs0 (tkL_get hkl)
      obtain ⟨rfl, hI⟩ := hRx
      refine skip ?_
      show Code.wp _ _ _ _ _
      refine seq ?_
      refine block ?_
      refine seq ?_
      refine region ?_
      refine sv (yMove h5) ?_
      refine sv (yMove h7) ?_
      refine sv (yIxa rfl hax rfl Tryz.runUnderlying94 Tryz.sizeOf96 (by omega) (by omega)) ?_
      refine sv (yLdA rfl Tryz.isAgg96 Tryz.sizeOf96 (hcx.ext hS.ext) rfl) ?_
      refine salloc hS Tryz.zeroValue96 rfl ?_; clear hS; intro b8 w hS
      refine sst hS rfl rfl Tryz.sizeOf96 rfl rfl rfl rfl ?_; clear hS; intro w hS
      refine nil ?_
      show Code.wp _ _ _ _ _
      refine seqJ (n := 182) (fun f w => f 1 = .slice am mo.length cm ∧ f 2 = .pointer (some ⟨b2, 0, none⟩) ∧ f 5 = .slice a0 h0.length c0 ∧ f 6 = wv ∧ f 7 = .int .i64 (k : Int) ∧ f 8 = .pointer (some ⟨b8, 0, none⟩) ∧ StX [] w0 w [blk b8 (btkC (worN mo (tkL h0 k) k)) 96, rowI (wv) 96 3 k ((worL mo h0 k).flatMap btkC), blk b2 [rv, .int .i64 x.basin.leak, .int .i64 x.basin.crest, .int .i64 x.basin.over, pv, .int .i64 x.state.volume, fv, .int .i64 x.frm, .slice ah x.hs.length ch] 90] ∧ True) ?_ ?_
      ·
        refine seq ?_
        refine region ?_
        refine sv (yMove h1) ?_
        refine sv (yLen rfl Tryz.underlying93) ?_
        refine sv (yGtr rfl rfl) ?_
        refine nil ?_
        show Code.wp _ _ _ _ _
        refine cond rfl (fun c36 => ?_) (fun c36 => ?_)
        ·
          simp only [Bool.and_eq_true, Bool.or_eq_true, Bool.and_eq_false_iff, Bool.or_eq_false_iff, decide_eq_true_eq, decide_eq_false_iff_not, Bool.not_eq_true, Bool.not_eq_false, Bool.not_not, Bool.not_eq_eq_eq_not, Bool.not_true, Bool.not_false, Bool.false_eq_true, Bool.true_eq_false, ne_eq, Decidable.not_not, not_false_eq_true, not_true_eq_false] at c36
          obtain ⟨bm, om, cm2, ham, hlm, hcm, hRm, -⟩ := sl_at hm (moreAt_get (i := k) c36)
          obtain ⟨rfl, hm1, hm2⟩ := hRm
          refine seq ?_
          refine region ?_
          refine sv (yMove h1) ?_
          refine sv (yMove h7) ?_
          refine sv (yMove h1) ?_
          refine sv (yLen rfl Tryz.underlying93) ?_
          refine sv (yRemP rfl rfl (by omega) (by omega)) ?_
          refine sv (yIxa rfl ham (rfl.trans (congrArg (Value.int .i64) (Int.natCast_emod k mo.length).symm)) Tryz.runUnderlying93 Tryz.sizeOf97 (by omega) (by have := Nat.mod_lt k (show 0 < mo.length by omega); omega)) ?_
          refine sv (yLdA rfl Tryz.isAgg97 Tryz.sizeOf97 (hcm.ext hS.ext) rfl) ?_
          refine salloc hS Tryz.zeroValue97 rfl ?_; clear hS; intro b9 w hS
          refine sst hS rfl rfl Tryz.sizeOf97 rfl rfl rfl rfl ?_; clear hS; intro w hS
          refine nil ?_
          show Code.wp _ _ _ _ _
          refine region_two mixed [0, 1, 0, 2, 0, 0, 0, 0, 1, 0, 2, 0, 0, 0] 15 18 (fun w => StX [] w0 w [blk b9 [.int .u16 (moreAt mo k).1, .int .u16 (moreAt mo k).2] 97, blk b8 (btkC (tkL h0 k)) 96, rowI (wv) 96 3 k ((worL mo h0 k).flatMap btkC), blk b2 [rv, .int .i64 x.basin.leak, .int .i64 x.basin.crest, .int .i64 x.basin.over, pv, .int .i64 x.state.volume, fv, .int .i64 x.frm, .slice ah x.hs.length ch] 90]) (fun w => StX [] w0 w [blk b9 [.int .u16 (moreAt mo k).1, .int .u16 (moreAt mo k).2] 97]) (by kernel_rfl) (fun c a a' w h => by obtain ⟨_, v, hv, _⟩ := h; cases hv) hS (fun _ h => h) (fun _ h => h.sub (.cons_cons _ (List.nil_sublist _))) ?_
          clear hS; intro w hS
          refine hv0 (fun w => (fa96_0 rfl)) ?_
          refine hv1 (fun w hS => (yLdB rfl Tryz.isAgg3 (hS.at _) rfl)) ?_
          refine hv0 (fun w => (yIxA rfl rfl Tryz.runUnderlying97 Tryz.sizeOf52 (by omega) (by omega))) ?_
          refine hv2 (fun w hS => (yLdB rfl Tryz.isAgg52 (hS.at _) rfl)) ?_
          refine hv0 (fun w => (yToI rfl Tryz.underlying52 Tryz.underlying3 ⟨by omega, by omega⟩)) ?_
          refine hv0 (fun w => (yAddW rfl rfl)) ?_
          refine hv0 (fun w => (yMin rfl rfl)) ?_
          refine hv0 (fun w => (fa96_1 rfl)) ?_
          refine hv1 (fun w hS => (yLdB rfl Tryz.isAgg3 (hS.at _) rfl)) ?_
          refine hv0 (fun w => (yIxA rfl rfl Tryz.runUnderlying97 Tryz.sizeOf52 (by omega) (by omega))) ?_
          refine hv2 (fun w hS => (yLdB rfl Tryz.isAgg52 (hS.at _) rfl)) ?_
          refine hv0 (fun w => (yToI rfl Tryz.underlying52 Tryz.underlying3 ⟨by omega, by omega⟩)) ?_
          refine hv0 (fun w => (yAddW rfl rfl)) ?_
          refine hv0 (fun w => (yMin rfl rfl)) ?_
          refine hgnil ?_
          show wpR _ _ _ _ _ _ _ _ _ _ _ _
          refine r_step (i := 14) (is := []) (by kernel_rfl) ⟨?_, trivial⟩
          refine ⟨_, rfl, ?_⟩
          refine sv (fa96_0 rfl) ?_
          refine nil ?_
          refine ⟨⟨fun _ h => h, fun _ h => h⟩, ?_⟩
          show wpR _ _ _ _ _ _ _ _ _ _ _ _
          refine r_step (i := 15) (is := []) (by kernel_rfl) ⟨?_, trivial⟩
          refine ⟨_, rfl, ?_⟩
          refine sst hS rfl rfl Tryz.sizeOf3 rfl rfl rfl rfl ?_; clear hS; intro w hS
          refine nil ?_
          refine ⟨⟨fun h => absurd h (by decide), fun _ _ => (hS.sub (.cons_cons _ (List.nil_sublist _)))⟩, ?_⟩
          show wpR _ _ _ _ _ _ _ _ _ _ _ _
          refine r_step (i := 16) (is := []) (by kernel_rfl) ⟨?_, trivial⟩
          refine ⟨_, rfl, ?_⟩
          refine sv (fa96_1 rfl) ?_
          refine nil ?_
          refine ⟨⟨fun _ h => h, fun _ h => h⟩, ?_⟩
          show wpR _ _ _ _ _ _ _ _ _ _ _ _
          refine r_step (i := 17) (is := []) (by kernel_rfl) ⟨?_, trivial⟩
          refine ⟨_, rfl, ?_⟩
          refine sst hS rfl rfl Tryz.sizeOf3 rfl rfl rfl rfl ?_; clear hS; intro w hS
          refine nil ?_
          refine ⟨⟨fun h => absurd h (by decide), fun _ _ => (hS.sub (.cons_cons _ (List.nil_sublist _)))⟩, ?_⟩
          show wpR _ _ _ _ _ _ _ _ _ _ _ _
          refine r_end (by kernel_rfl) ?_
          exact ⟨_, rfl, h1, h2, h5, h6, h7, rfl, (by rw [worN_y c36]; exact hS.sub (.cons _ (List.Sublist.refl _))), trivial⟩
        ·
          simp only [Bool.and_eq_true, Bool.or_eq_true, Bool.and_eq_false_iff, Bool.or_eq_false_iff, decide_eq_true_eq, decide_eq_false_iff_not, Bool.not_eq_true, Bool.not_eq_false, Bool.not_not, Bool.not_eq_eq_eq_not, Bool.not_true, Bool.not_false, Bool.false_eq_true, Bool.true_eq_false, ne_eq, Decidable.not_not, not_false_eq_true, not_true_eq_false] at c36
          refine skip ?_
          exact ⟨_, rfl, h1, h2, h5, h6, h7, rfl, (by rw [worN_n c36]; exact hS), trivial⟩
      ·
        clear hS; rintro f w ⟨h1, h2, h5, h6, h7, h8, hS, -⟩
        refine region ?_
        refine sv (yMove h6) ?_
        refine sv (yLdBA h8 Tryz.isAgg96 Tryz.sizeOf96 (hS.at _) rfl rfl) ?_
        refine sbslice hS Tryz.underlying94 Tryz.sizeOf96 rfl Tryz.zeroValue96 rfl (.cons rfl rfl .nil) rfl ?_; clear hS; intro b62 w hS
        refine sapp (bytes := 24) (size := 3) (v := wv) (m := 1) hS rfl rfl Tryz.underlying94 ti96 rfl rfl rfl rfl (by decide) (blk_cells (hS.at _)) rfl rfl (by omega) (by omega) ?_; clear hS; intro v63 w hS
        refine sv (yAsg rfl) ?_
        refine nil ?_
        show Code.wp _ _ _ _ _
        refine region ?_
        refine sv (yMove h7) ?_
        refine sv (yAdd rfl rfl ⟨by omega, by omega⟩) ?_
        refine sv (yAsg rfl) ?_
        refine nil ?_
        exact ⟨_, _, rfl, ⟨k + 1, _, h1, h2, h5, rfl, rfl, (by rw [worL_succ, List.flatMap_append]; exact hS.sub (.cons _ (.cons _ (List.Sublist.refl _)))), (by omega), rfl⟩, by omega⟩
    ·
      simp only [Bool.and_eq_true, Bool.or_eq_true, Bool.and_eq_false_iff, Bool.or_eq_false_iff, decide_eq_true_eq, decide_eq_false_iff_not, Bool.not_eq_true, Bool.not_eq_false, Bool.not_not, Bool.not_eq_eq_eq_not, Bool.not_true, Bool.not_false, Bool.false_eq_true, Bool.true_eq_false, ne_eq, Decidable.not_not, not_false_eq_true, not_true_eq_false] at c27
      obtain rfl : k = h0.length := by omega
      refine exit ?_
      show Code.wp _ _ _ _ _
      refine seq ?_
      refine region ?_
      refine sv (fa90_0 h2) ?_
      refine sv (yLdBA rfl Tryz.isAgg85 Tryz.sizeOf85 (hS.at _) rfl rfl) ?_
      refine sv (fa90_1 h2) ?_
      refine sv (yLdBA rfl Tryz.isAgg87 Tryz.sizeOf87 (hS.at _) rfl rfl) ?_
      refine sv (fa90_2 h2) ?_
      refine sv (yLdB rfl Tryz.isAgg3 (hS.at _) rfl) ?_
      refine sv (yMove h5) ?_
      refine sv (yMove h6) ?_
      obtain ⟨aw5, cw5, rfl⟩ := row_shape (hS.row wv)
      refine sbslice hS Tryz.underlying88 Tryz.sizeOf94 rfl Tryz.zeroValue94 rfl (.cons rfl rfl (.cons rfl rfl .nil)) rfl ?_; clear hS; intro b73 w hS
      refine scall Tryz.call44 (.cons rfl (.cons rfl (.cons rfl (.cons rfl .nil)))) (c_From (hg.ext hS.ext) (hb.ext hS.ext) (hst.ext hS.ext) (two_tks (hS.at b73) (hs0.ext RBtk.stays hS.ext) (sl_tks (hS.row (.slice aw5 h0.length cw5)) (worL_len ..) (wor_I (sl_all hs0 (fun _ _ h => h.2)) (Nat.le_refl _))))) ?_
      rintro _ w ⟨la, rfl, hKa, hE⟩; replace hS := hS.step hE; clear hE
      refine sv (yMove rfl) ?_
      refine sv (yExt rfl rfl) ?_
      refine sv (yExt rfl rfl) ?_
      refine sv (yAsg rfl) ?_
      refine sv (yAsg rfl) ?_
      refine nil ?_
      show Code.wp _ _ _ _ _
      refine seq ?_
      refine region ?_
      refine sv (fa90_0 h2) ?_
      refine sv (yLdBA rfl Tryz.isAgg85 Tryz.sizeOf85 (hS.at _) rfl rfl) ?_
      refine sv (fa90_1 h2) ?_
      refine sv (yLdBA rfl Tryz.isAgg87 Tryz.sizeOf87 (hS.at _) rfl rfl) ?_
      refine sv (yMove h5) ?_
      refine scall Tryz.call46 (.cons rfl (.cons rfl (.cons rfl .nil))) (c_FloodsS (hg.ext hS.ext) (hb.ext hS.ext) (hst.ext hS.ext) (hs0.ext RBtk.stays hS.ext)) ?_
      rintro _ w ⟨va, rfl, hKf, hE⟩; replace hKa := hKa.ext RRow.stays hE; replace hS := hS.step hE; clear hE
      refine sv (yMove rfl) ?_
      refine sv (yExt rfl rfl) ?_
      refine sv (yExt rfl rfl) ?_
      refine sv (yAsg rfl) ?_
      refine sv (yAsg rfl) ?_
      refine nil ?_
      show Code.wp _ _ _ _ _
      refine seq ?_
      refine seq ?_
      refine region ?_
      refine sv (yMove rfl) ?_
      refine sv (yNeq rfl rfl) ?_
      refine nil ?_
      show Code.wp _ _ _ _ _
      refine cond rfl (fun c87 => ?_) (fun c87 => ?_)
      ·
        simp only [Bool.and_eq_true, Bool.or_eq_true, Bool.and_eq_false_iff, Bool.or_eq_false_iff, decide_eq_true_eq, decide_eq_false_iff_not, Bool.not_eq_true, Bool.not_eq_false, Bool.not_not, Bool.not_eq_eq_eq_not, Bool.not_true, Bool.not_false, Bool.false_eq_true, Bool.true_eq_false, ne_eq, Decidable.not_not, not_false_eq_true, not_true_eq_false] at c87
        refine seq ?_
        refine region ?_
        refine scall Tryz.call20 .nil (c_Awake (hg.ext hS.ext)) ?_
        rintro _ w ⟨rfl, hE⟩; replace hS := hS.step hE; clear hE
        refine sv (yAsg rfl) ?_
        refine nil ?_
        show Code.wp _ _ _ _ _
        refine wp_ret (thenR ?_)
        exact retV (res1 rfl rfl) hS.ext
      ·
        simp only [Bool.and_eq_true, Bool.or_eq_true, Bool.and_eq_false_iff, Bool.or_eq_false_iff, decide_eq_true_eq, decide_eq_false_iff_not, Bool.not_eq_true, Bool.not_eq_false, Bool.not_not, Bool.not_eq_eq_eq_not, Bool.not_true, Bool.not_false, Bool.false_eq_true, Bool.true_eq_false, ne_eq, Decidable.not_not, not_false_eq_true, not_true_eq_false] at c87
        rw [fromR_e] at c87
        have hE0 : fromE x.basin x.state x.frm [h0, (worL mo h0 h0.length)] = 0 := by omega
        obtain ⟨hok, hr0, hfr, hlaw⟩ := floods_law hE0 (sl_all hm (fun _ _ h => h.2))
        have hnp := hok.npol
        rw [from_in hE0] at hKa
        replace hKa : Sl _ 1 RRow la [flz x.basin x.state x.frm h0, flz x.basin x.state x.frm (worL mo h0 h0.length)] := hKa
        obtain ⟨al, cl, rfl, -⟩ := id hKa
        replace hKf := hKf hr0
        obtain ⟨aw, cw, rfl, -⟩ := id hKf
        obtain ⟨br0, or0, cr0, har0, hlr0, hcr0, hRr0, -⟩ := sl_at hKa (i := 0) rfl
        obtain ⟨rv0, rfl, hs00⟩ := hRr0
        obtain ⟨ax0, cx0, rfl, -⟩ := id hs00
        obtain ⟨br1, or1, cr1, har1, hlr1, hcr1, hRr1, -⟩ := sl_at hKa (i := 1) rfl
        obtain ⟨rv1, rfl, hs11⟩ := hRr1
        obtain ⟨ax1, cx1, rfl, -⟩ := id hs11
        have hlz0 := flz_len x.basin x.state x.frm h0
        have hlz1 := flz_len x.basin x.state x.frm (worL mo h0 h0.length)
        have hlf := floodsF_len x.basin x.state h0
        have hb2 : w.heap[b2]? = some (.cells ([rv, .int .i64 x.basin.leak, .int .i64 x.basin.crest, .int .i64 x.basin.over, pv, .int .i64 x.state.volume, fv, .int .i64 x.frm, .slice ah x.hs.length ch] : List Value).toArray 90 (0, 0)) := hS.at b2
        have hE1 := hS.ext
        have hg3 := hg.ext hE1
        obtain ⟨w0, hwq⟩ : ∃ wq, wq = w := ⟨w, rfl⟩
        rw [← hwq] at hE1 hb2 hg3 hKa hKf hcr0 hcr1 hs00 hs11
        replace hS : StX [] w0 w [] := by rw [hwq]; exact St.start w
        clear hwq
        refine skip ?_
        show Code.wp _ _ _ _ _
        refine seq ?_
        refine seq ?_
        refine region ?_
        refine sv (yMove rfl) ?_
        refine sv (yNeq rfl rfl) ?_
        refine sv (yMove rfl) ?_
        refine sg rfl rfl rfl (fun g => (yMove rfl)) (fun v92 g92 => ?_)
        refine sg rfl rfl rfl (fun g => (yLen (g92.1 g) Tryz.underlying24)) (fun v93 g93 => ?_)
        refine sg rfl rfl rfl (fun g => (yNeq (g93.1 g) rfl)) (fun v94 g94 => ?_)
        refine sv (yOr rfl rfl (fun hB => (g94.1 hB))) ?_
        refine sv (yMove rfl) ?_
        refine sg rfl rfl rfl (fun g => (yMove rfl)) (fun v97 g97 => ?_)
        refine sg rfl rfl rfl (fun g => (yIxa (g97.1 g) har0 rfl Tryz.runUnderlying24 Tryz.sizeOf34 (by omega) (by simp))) (fun v98 g98 => ?_)
        refine sg rfl rfl rfl (fun g => (yLd (g98.1 g) Tryz.isAgg34 ((hcr0.ext hS.ext).one))) (fun v99 g99 => ?_)
        refine sg rfl rfl rfl (fun g => (yLen (g99.1 g) Tryz.underlying34)) (fun v100 g100 => ?_)
        refine sg rfl rfl rfl (fun g => (yMove rfl)) (fun v101 g101 => ?_)
        refine sg rfl rfl rfl (fun g => (yLen (g101.1 g) Tryz.underlying34)) (fun v102 g102 => ?_)
        refine sg rfl rfl rfl (fun g => (yNeq (g100.1 g) (g102.1 g))) (fun v103 g103 => ?_)
        refine sv (yOr rfl rfl (fun hB => (g103.1 hB))) ?_
        refine sv (yMove rfl) ?_
        refine sg rfl rfl rfl (fun g => (yMove rfl)) (fun v106 g106 => ?_)
        refine sg rfl rfl rfl (fun g => (yIxa (g106.1 g) har1 rfl Tryz.runUnderlying24 Tryz.sizeOf34 (by omega) (by simp))) (fun v107 g107 => ?_)
        refine sg rfl rfl rfl (fun g => (yLd (g107.1 g) Tryz.isAgg34 ((hcr1.ext hS.ext).one))) (fun v108 g108 => ?_)
        refine sg rfl rfl rfl (fun g => (yLen (g108.1 g) Tryz.underlying34)) (fun v109 g109 => ?_)
        refine sg rfl rfl rfl (fun g => (yMove rfl)) (fun v110 g110 => ?_)
        refine sg rfl rfl rfl (fun g => (yLen (g110.1 g) Tryz.underlying34)) (fun v111 g111 => ?_)
        refine sg rfl rfl rfl (fun g => (yNeq (g109.1 g) (g111.1 g))) (fun v112 g112 => ?_)
        refine sv (yOr rfl rfl (fun hB => (g112.1 hB))) ?_
        refine nil ?_
        show Code.wp _ _ _ _ _
        refine cond rfl (fun c113 => ?_) (fun c113 => ?_)
        ·
          simp only [Bool.and_eq_true, Bool.or_eq_true, Bool.and_eq_false_iff, Bool.or_eq_false_iff, decide_eq_true_eq, decide_eq_false_iff_not, Bool.not_eq_true, Bool.not_eq_false, Bool.not_not, Bool.not_eq_eq_eq_not, Bool.not_true, Bool.not_false, Bool.false_eq_true, Bool.true_eq_false, ne_eq, Decidable.not_not, not_false_eq_true, not_true_eq_false] at c113
          exfalso; simp at c113; omega
        ·
          simp only [Bool.and_eq_true, Bool.or_eq_true, Bool.and_eq_false_iff, Bool.or_eq_false_iff, decide_eq_true_eq, decide_eq_false_iff_not, Bool.not_eq_true, Bool.not_eq_false, Bool.not_not, Bool.not_eq_eq_eq_not, Bool.not_true, Bool.not_false, Bool.false_eq_true, Bool.true_eq_false, ne_eq, Decidable.not_not, not_false_eq_true, not_true_eq_false] at c113
          refine skip ?_
          show Code.wp _ _ _ _ _
          refine seq ?_
          refine seq ?_
          refine region ?_
          refine sv (yAsg rfl) ?_
          refine nil ?_
          show Code.wp _ _ _ _ _
          refine block ?_
          refine loop (fun f w zz => ∃ (i : Nat), f 2 = .pointer (some ⟨b2, 0, none⟩) ∧ f 10 = .slice al [flz x.basin x.state x.frm h0, flz x.basin x.state x.frm (worL mo h0 h0.length)].length cl ∧ f 12 = .slice aw (floodsF x.basin x.state h0).length cw ∧ f 14 = .int .i64 (i : Int) ∧ StX [] w0 w (([] : List Bx.Item)) ∧ (i ≤ x.basin.pols.length) ∧ zz = x.basin.pols.length - i) _ ⟨_, rfl, 0, h2, rfl, rfl, rfl, hS, (Nat.zero_le _), rfl⟩ ?_
          clear hS
          rintro f w _ ⟨i, h2, h10, h12, h14, hS, hi, rfl⟩
          refine seq ?_
          refine seq ?_
          refine region ?_
          refine sv (yMove h14) ?_
          refine sv (yMove h12) ?_
          refine sv (yLen rfl Tryz.underlying34) ?_
          refine sv (yLss rfl rfl) ?_
          refine nil ?_
          show Code.wp _ _ _ _ _
          refine cond rfl (fun c117 => ?_) (fun c117 => ?_)
          ·
            simp only [Bool.and_eq_true, Bool.or_eq_true, Bool.and_eq_false_iff, Bool.or_eq_false_iff, decide_eq_true_eq, decide_eq_false_iff_not, Bool.not_eq_true, Bool.not_eq_false, Bool.not_not, Bool.not_eq_eq_eq_not, Bool.not_true, Bool.not_false, Bool.false_eq_true, Bool.true_eq_false, ne_eq, Decidable.not_not, not_false_eq_true, not_true_eq_false] at c117
            have hil : i < x.basin.pols.length := by omega
            obtain ⟨hL1, hL2, hL3⟩ := hlaw i hil
            obtain ⟨byf, oyf, cyf, hayf, hlyf, hcyf, hRyf, -⟩ := sl_at hKf (flo_at hil)
            obtain ⟨rfl, -⟩ := hRyf
            obtain ⟨by0, oy0, cy0, hay0, hly0, hcy0, hRy0, -⟩ := sl_at hs00 (flz_at hil)
            obtain ⟨rfl, -⟩ := hRy0
            obtain ⟨by1, oy1, cy1, hay1, hly1, hcy1, hRy1, -⟩ := sl_at hs11 (flz_at hil)
            obtain ⟨rfl, -⟩ := hRy1
            refine skip ?_
            show Code.wp _ _ _ _ _
            refine seq ?_
            refine block ?_
            refine seq ?_
            refine region_draw mixed (by kernel_rfl) hS ?_
            refine qv (fun w hS => (yMove h12)) ?_
            refine qv (fun w hS => (yMove h14)) ?_
            refine qv (fun w hS => (yIxa rfl hayf rfl Tryz.runUnderlying34 Tryz.sizeOf3 (by omega) (by omega))) ?_
            refine qv (fun w hS => (yLd rfl Tryz.isAgg3 ((hcyf.ext hS.ext).one))) ?_
            refine qv (fun w hS => (yLss rfl rfl)) ?_
            refine qv (fun w hS => (yMove rfl)) ?_
            refine qg rfl rfl rfl (fun g w hS => (yMove h10)) (fun v126 g126 => ?_)
            refine qg rfl rfl rfl (fun g w hS => (yIxa (g126.1 g) har0 rfl Tryz.runUnderlying24 Tryz.sizeOf34 (by omega) (by simp))) (fun v127 g127 => ?_)
            refine qg rfl rfl rfl (fun g w hS => (yLd (g127.1 g) Tryz.isAgg34 ((hcr0.ext hS.ext).one))) (fun v128 g128 => ?_)
            refine qg rfl rfl rfl (fun g w hS => (yMove h14)) (fun v129 g129 => ?_)
            refine qg rfl rfl rfl (fun g w hS => (yIxa (g128.1 g) hay0 (g129.1 g) Tryz.runUnderlying34 Tryz.sizeOf3 (by omega) (by omega))) (fun v130 g130 => ?_)
            refine qg rfl rfl rfl (fun g w hS => (yLd (g130.1 g) Tryz.isAgg3 ((hcy0.ext hS.ext).one))) (fun v131 g131 => ?_)
            refine qg rfl rfl rfl (fun g w hS => (yNeq (g131.1 g) rfl)) (fun v132 g132 => ?_)
            refine qv (fun w hS => (yAnd rfl (fun hB => (g132.1 hB)) rfl)) ?_
            refine qv (fun w hS => (yMove rfl)) ?_
            refine qg rfl rfl rfl (fun g w hS => (yMove h12)) (fun v135 g135 => ?_)
            refine qg rfl rfl rfl (fun g w hS => (yMove h14)) (fun v136 g136 => ?_)
            refine qg rfl rfl rfl (fun g w hS => (yIxa (g135.1 g) hayf (g136.1 g) Tryz.runUnderlying34 Tryz.sizeOf3 (by omega) (by omega))) (fun v137 g137 => ?_)
            refine qg rfl rfl rfl (fun g w hS => (yLd (g137.1 g) Tryz.isAgg3 ((hcyf.ext hS.ext).one))) (fun v138 g138 => ?_)
            refine qg rfl rfl rfl (fun g w hS => (yGeq (g138.1 g) rfl)) (fun v139 g139 => ?_)
            refine qg rfl rfl rfl (fun g w hS => (yMove (g139.1 g))) (fun v140 g140 => ?_)
            refine qgg rfl rfl g140 (fun g w hS => (yMove h10)) (fun v141 g141 => ?_)
            refine qgg rfl rfl g140 (fun g w hS => (yIxa (g141.1 g) har0 rfl Tryz.runUnderlying24 Tryz.sizeOf34 (by omega) (by simp))) (fun v142 g142 => ?_)
            refine qgg rfl rfl g140 (fun g w hS => (yLd (g142.1 g) Tryz.isAgg34 ((hcr0.ext hS.ext).one))) (fun v143 g143 => ?_)
            refine qgg rfl rfl g140 (fun g w hS => (yMove h14)) (fun v144 g144 => ?_)
            refine qgg rfl rfl g140 (fun g w hS => (yIxa (g143.1 g) hay0 (g144.1 g) Tryz.runUnderlying34 Tryz.sizeOf3 (by omega) (by omega))) (fun v145 g145 => ?_)
            refine qgg rfl rfl g140 (fun g w hS => (yLd (g145.1 g) Tryz.isAgg3 ((hcy0.ext hS.ext).one))) (fun v146 g146 => ?_)
            refine qgg rfl rfl g140 (fun g w hS => (fa90_2 h2)) (fun v147 g147 => ?_)
            refine qgg rfl rfl g140 (fun g w hS => (yLdB (g147.1 g) Tryz.isAgg3 (hS.ext.get hb2) rfl)) (fun v148 g148 => ?_)
            refine qgg rfl rfl g140 (fun g w hS => (yMove h12)) (fun v149 g149 => ?_)
            refine qgg rfl rfl g140 (fun g w hS => (yMove h14)) (fun v150 g150 => ?_)
            refine qgg rfl rfl g140 (fun g w hS => (yIxa (g149.1 g) hayf (g150.1 g) Tryz.runUnderlying34 Tryz.sizeOf3 (by omega) (by omega))) (fun v151 g151 => ?_)
            refine qgg rfl rfl g140 (fun g w hS => (yLd (g151.1 g) Tryz.isAgg3 ((hcyf.ext hS.ext).one))) (fun v152 g152 => ?_)
            refine qgg rfl rfl g140 (fun g w hS => (yAdd (g148.1 g) (g152.1 g) ⟨by omega, by omega⟩)) (fun v153 g153 => ?_)
            refine qgg rfl rfl g140 (fun g w hS => (yNeq (g146.1 g) (g153.1 g))) (fun v154 g154 => ?_)
            refine qgg rfl rfl g140 (fun g w hS => (yMove (g154.1 g))) (fun v155 g155 => ?_)
            refine qgg rfl rfl g155 (fun g w hS => (yMove h10)) (fun v156 g156 => ?_)
            refine qgg rfl rfl g155 (fun g w hS => (yIxa (g156.1 g) har1 rfl Tryz.runUnderlying24 Tryz.sizeOf34 (by omega) (by simp))) (fun v157 g157 => ?_)
            refine qgg rfl rfl g155 (fun g w hS => (yLd (g157.1 g) Tryz.isAgg34 ((hcr1.ext hS.ext).one))) (fun v158 g158 => ?_)
            refine qgg rfl rfl g155 (fun g w hS => (yMove h14)) (fun v159 g159 => ?_)
            refine qgg rfl rfl g155 (fun g w hS => (yIxa (g158.1 g) hay1 (g159.1 g) Tryz.runUnderlying34 Tryz.sizeOf3 (by omega) (by omega))) (fun v160 g160 => ?_)
            refine qgg rfl rfl g155 (fun g w hS => (yLd (g160.1 g) Tryz.isAgg3 ((hcy1.ext hS.ext).one))) (fun v161 g161 => ?_)
            refine qgg rfl rfl g155 (fun g w hS => (yLss (g161.1 g) rfl)) (fun v162 g162 => ?_)
            refine qgg rfl rfl g140 (fun g w hS => (yOr (g155.1 g) rfl (fun hB => (g162.1 ⟨g, hB⟩)))) (fun v163 g163 => ?_)
            refine qgg rfl rfl g140 (fun g w hS => (yMove (g163.1 g))) (fun v164 g164 => ?_)
            refine qgg rfl rfl g164 (fun g w hS => (yMove h10)) (fun v165 g165 => ?_)
            refine qgg rfl rfl g164 (fun g w hS => (yIxa (g165.1 g) har1 rfl Tryz.runUnderlying24 Tryz.sizeOf34 (by omega) (by simp))) (fun v166 g166 => ?_)
            refine qgg rfl rfl g164 (fun g w hS => (yLd (g166.1 g) Tryz.isAgg34 ((hcr1.ext hS.ext).one))) (fun v167 g167 => ?_)
            refine qgg rfl rfl g164 (fun g w hS => (yMove h14)) (fun v168 g168 => ?_)
            refine qgg rfl rfl g164 (fun g w hS => (yIxa (g167.1 g) hay1 (g168.1 g) Tryz.runUnderlying34 Tryz.sizeOf3 (by omega) (by omega))) (fun v169 g169 => ?_)
            refine qgg rfl rfl g164 (fun g w hS => (yLd (g169.1 g) Tryz.isAgg3 ((hcy1.ext hS.ext).one))) (fun v170 g170 => ?_)
            refine qgg rfl rfl g164 (fun g w hS => (yMove h10)) (fun v171 g171 => ?_)
            refine qgg rfl rfl g164 (fun g w hS => (yIxa (g171.1 g) har0 rfl Tryz.runUnderlying24 Tryz.sizeOf34 (by omega) (by simp))) (fun v172 g172 => ?_)
            refine qgg rfl rfl g164 (fun g w hS => (yLd (g172.1 g) Tryz.isAgg34 ((hcr0.ext hS.ext).one))) (fun v173 g173 => ?_)
            refine qgg rfl rfl g164 (fun g w hS => (yMove h14)) (fun v174 g174 => ?_)
            refine qgg rfl rfl g164 (fun g w hS => (yIxa (g173.1 g) hay0 (g174.1 g) Tryz.runUnderlying34 Tryz.sizeOf3 (by omega) (by omega))) (fun v175 g175 => ?_)
            refine qgg rfl rfl g164 (fun g w hS => (yLd (g175.1 g) Tryz.isAgg3 ((hcy0.ext hS.ext).one))) (fun v176 g176 => ?_)
            refine qgg rfl rfl g164 (fun g w hS => (yGtr (g170.1 g) (g176.1 g))) (fun v177 g177 => ?_)
            refine qgg rfl rfl g140 (fun g w hS => (yOr (g164.1 g) rfl (fun hB => (g177.1 ⟨g, hB⟩)))) (fun v178 g178 => ?_)
            refine qg rfl rfl rfl (fun g w hS => (yAnd (g140.1 g) (fun hB => (g178.1 ⟨g, hB⟩)) rfl)) (fun v179 g179 => ?_)
            refine qv (fun w hS => (yOr rfl rfl (fun hB => (g179.1 hB)))) ?_
            clear hS; refine qnil (fun w hS => ?_)
            show Code.wp _ _ _ _ _
            refine cond rfl (fun c180 => ?_) (fun c180 => ?_)
            ·
              simp only [Bool.and_eq_true, Bool.or_eq_true, Bool.and_eq_false_iff, Bool.or_eq_false_iff, decide_eq_true_eq, decide_eq_false_iff_not, Bool.not_eq_true, Bool.not_eq_false, Bool.not_not, Bool.not_eq_eq_eq_not, Bool.not_true, Bool.not_false, Bool.false_eq_true, Bool.true_eq_false, ne_eq, Decidable.not_not, not_false_eq_true, not_true_eq_false] at c180
              exfalso; omega
            ·
              simp only [Bool.and_eq_true, Bool.or_eq_true, Bool.and_eq_false_iff, Bool.or_eq_false_iff, decide_eq_true_eq, decide_eq_false_iff_not, Bool.not_eq_true, Bool.not_eq_false, Bool.not_not, Bool.not_eq_eq_eq_not, Bool.not_true, Bool.not_false, Bool.false_eq_true, Bool.true_eq_false, ne_eq, Decidable.not_not, not_false_eq_true, not_true_eq_false] at c180
              refine skip ?_
              show Code.wp _ _ _ _ _
              refine region ?_
              refine sv (yMove h14) ?_
              refine sv (yAdd rfl rfl ⟨by omega, by omega⟩) ?_
              refine sv (yAsg rfl) ?_
              refine nil ?_
              exact ⟨_, _, rfl, ⟨i + 1, h2, h10, h12, rfl, hS, (by omega), rfl⟩, by omega⟩
          ·
            simp only [Bool.and_eq_true, Bool.or_eq_true, Bool.and_eq_false_iff, Bool.or_eq_false_iff, decide_eq_true_eq, decide_eq_false_iff_not, Bool.not_eq_true, Bool.not_eq_false, Bool.not_not, Bool.not_eq_eq_eq_not, Bool.not_true, Bool.not_false, Bool.false_eq_true, Bool.true_eq_false, ne_eq, Decidable.not_not, not_false_eq_true, not_true_eq_false] at c117
            refine exit ?_
            show Code.wp _ _ _ _ _
            refine seq ?_
            refine region ?_
            refine scall Tryz.call20 .nil (c_Awake (hg3.ext hS.ext)) ?_
            rintro _ w ⟨rfl, hE⟩; replace hS := hS.step hE; clear hE
            refine sv (yAsg rfl) ?_
            refine nil ?_
            show Code.wp _ _ _ _ _
            refine wp_ret ?_
            exact retV (res1 rfl rfl) (hE1.trans hS.ext)
end Go.Proofs.YtmoilbakmlekbaaGreatDoor

/- part Rd1 -/
namespace Go.Proofs.YtmoilbakmlekbaaGreatDoor
open Go Bx
theorem rd_Ints : RdW Tryz.prog 34 (fun w cs (l : List Int) => ∃ v, cs = [v] ∧ Sl w 1 RInt v l ∧ l.length * 8 ≤ 140737488351232) := rdw_slice (Rd.w (rd_int Tryz.underlying3)) (by kernel_rfl) (by decide) Tryz.underlying34 (by kernel_rfl)
end Go.Proofs.YtmoilbakmlekbaaGreatDoor

/- part RdG -/
namespace Go.Proofs.YtmoilbakmlekbaaGreatDoor
open Go Bx
section
variable {H : Type} {enc : TypeId × Value → H} {w : World} {base : Nat} {spare : Nat → Bool} {held : Bool} {fuel : Nat} {cs : List Value} {x : DataW H × List MemPlace}
theorem rdF85 (h : DataW.trod enc Tryz.prog w base spare held fuel 85 cs = some x) (hW : WOk Tryz.prog 85 x.1) : ∃ n c0 c1 c2 c3 c4, cs = [c0, c1, c2, c3, c4] ∧ (∃ y, DataW.trod enc Tryz.prog w base spare held n 82 [c0] = some y ∧ WOk Tryz.prog 82 y.1) ∧ (∃ y, DataW.trod enc Tryz.prog w base spare held n 3 [c1] = some y ∧ WOk Tryz.prog 3 y.1) ∧ (∃ y, DataW.trod enc Tryz.prog w base spare held n 3 [c2] = some y ∧ WOk Tryz.prog 3 y.1) ∧ (∃ y, DataW.trod enc Tryz.prog w base spare held n 3 [c3] = some y ∧ WOk Tryz.prog 3 y.1) ∧ (∃ y, DataW.trod enc Tryz.prog w base spare held n 83 [c4] = some y ∧ WOk Tryz.prog 83 y.1) := by
  have z3 : Tryz.prog.cellsOf 3 = 1 := by kernel_rfl
  have z82 : Tryz.prog.cellsOf 82 = 1 := by kernel_rfl
  have z83 : Tryz.prog.cellsOf 83 = 1 := by kernel_rfl
  obtain ⟨hl, n, hf⟩ := rdw_fields Tryz.underlying85 h hW
  have hz : Tryz.prog.cellsOf 85 = 5 := by kernel_rfl
  rw [hz] at hl
  obtain ⟨c0, c1, c2, c3, c4, rfl⟩ := five_of hl
  have f0 : ∃ y, DataW.trod enc Tryz.prog w base spare held n 82 ((List.drop 0 [c0, c1, c2, c3, c4]).take (Tryz.prog.cellsOf 82)) = some y ∧ WOk Tryz.prog 82 y.1 := hf 0 _ rfl
  rw [z82] at f0
  have f1 : ∃ y, DataW.trod enc Tryz.prog w base spare held n 3 ((List.drop 1 [c0, c1, c2, c3, c4]).take (Tryz.prog.cellsOf 3)) = some y ∧ WOk Tryz.prog 3 y.1 := hf 1 _ rfl
  rw [z3] at f1
  have f2 : ∃ y, DataW.trod enc Tryz.prog w base spare held n 3 ((List.drop 2 [c0, c1, c2, c3, c4]).take (Tryz.prog.cellsOf 3)) = some y ∧ WOk Tryz.prog 3 y.1 := hf 2 _ rfl
  rw [z3] at f2
  have f3 : ∃ y, DataW.trod enc Tryz.prog w base spare held n 3 ((List.drop 3 [c0, c1, c2, c3, c4]).take (Tryz.prog.cellsOf 3)) = some y ∧ WOk Tryz.prog 3 y.1 := hf 3 _ rfl
  rw [z3] at f3
  have f4 : ∃ y, DataW.trod enc Tryz.prog w base spare held n 83 ((List.drop 4 [c0, c1, c2, c3, c4]).take (Tryz.prog.cellsOf 83)) = some y ∧ WOk Tryz.prog 83 y.1 := hf 4 _ rfl
  rw [z83] at f4
  exact ⟨n, c0, c1, c2, c3, c4, rfl, f0, f1, f2, f3, f4⟩
theorem rdF87 (h : DataW.trod enc Tryz.prog w base spare held fuel 87 cs = some x) (hW : WOk Tryz.prog 87 x.1) : ∃ n c0 c1, cs = [c0, c1] ∧ (∃ y, DataW.trod enc Tryz.prog w base spare held n 3 [c0] = some y ∧ WOk Tryz.prog 3 y.1) ∧ (∃ y, DataW.trod enc Tryz.prog w base spare held n 34 [c1] = some y ∧ WOk Tryz.prog 34 y.1) := by
  have z3 : Tryz.prog.cellsOf 3 = 1 := by kernel_rfl
  have z34 : Tryz.prog.cellsOf 34 = 1 := by kernel_rfl
  obtain ⟨hl, n, hf⟩ := rdw_fields Tryz.underlying87 h hW
  have hz : Tryz.prog.cellsOf 87 = 2 := by kernel_rfl
  rw [hz] at hl
  obtain ⟨c0, c1, rfl⟩ := two_of hl
  have f0 : ∃ y, DataW.trod enc Tryz.prog w base spare held n 3 ((List.drop 0 [c0, c1]).take (Tryz.prog.cellsOf 3)) = some y ∧ WOk Tryz.prog 3 y.1 := hf 0 _ rfl
  rw [z3] at f0
  have f1 : ∃ y, DataW.trod enc Tryz.prog w base spare held n 34 ((List.drop 1 [c0, c1]).take (Tryz.prog.cellsOf 34)) = some y ∧ WOk Tryz.prog 34 y.1 := hf 1 _ rfl
  rw [z34] at f1
  exact ⟨n, c0, c1, rfl, f0, f1⟩
theorem rdF90 (h : DataW.trod enc Tryz.prog w base spare held fuel 90 cs = some x) (hW : WOk Tryz.prog 90 x.1) : ∃ n c0 c1 c2 c3 c4 c5 c6 c7 c8, cs = [c0, c1, c2, c3, c4, c5, c6, c7, c8] ∧ (∃ y, DataW.trod enc Tryz.prog w base spare held n 85 [c0, c1, c2, c3, c4] = some y ∧ WOk Tryz.prog 85 y.1) ∧ (∃ y, DataW.trod enc Tryz.prog w base spare held n 87 [c5, c6] = some y ∧ WOk Tryz.prog 87 y.1) ∧ (∃ y, DataW.trod enc Tryz.prog w base spare held n 3 [c7] = some y ∧ WOk Tryz.prog 3 y.1) ∧ (∃ y, DataW.trod enc Tryz.prog w base spare held n 88 [c8] = some y ∧ WOk Tryz.prog 88 y.1) := by
  have z3 : Tryz.prog.cellsOf 3 = 1 := by kernel_rfl
  have z85 : Tryz.prog.cellsOf 85 = 5 := by kernel_rfl
  have z87 : Tryz.prog.cellsOf 87 = 2 := by kernel_rfl
  have z88 : Tryz.prog.cellsOf 88 = 1 := by kernel_rfl
  obtain ⟨hl, n, hf⟩ := rdw_fields Tryz.underlying90 h hW
  have hz : Tryz.prog.cellsOf 90 = 9 := by kernel_rfl
  rw [hz] at hl
  obtain ⟨c0, c1, c2, c3, c4, c5, c6, c7, c8, rfl⟩ := nine_of hl
  have f0 : ∃ y, DataW.trod enc Tryz.prog w base spare held n 85 ((List.drop 0 [c0, c1, c2, c3, c4, c5, c6, c7, c8]).take (Tryz.prog.cellsOf 85)) = some y ∧ WOk Tryz.prog 85 y.1 := hf 0 _ rfl
  rw [z85] at f0
  have f1 : ∃ y, DataW.trod enc Tryz.prog w base spare held n 87 ((List.drop 5 [c0, c1, c2, c3, c4, c5, c6, c7, c8]).take (Tryz.prog.cellsOf 87)) = some y ∧ WOk Tryz.prog 87 y.1 := hf 1 _ rfl
  rw [z87] at f1
  have f2 : ∃ y, DataW.trod enc Tryz.prog w base spare held n 3 ((List.drop 7 [c0, c1, c2, c3, c4, c5, c6, c7, c8]).take (Tryz.prog.cellsOf 3)) = some y ∧ WOk Tryz.prog 3 y.1 := hf 2 _ rfl
  rw [z3] at f2
  have f3 : ∃ y, DataW.trod enc Tryz.prog w base spare held n 88 ((List.drop 8 [c0, c1, c2, c3, c4, c5, c6, c7, c8]).take (Tryz.prog.cellsOf 88)) = some y ∧ WOk Tryz.prog 88 y.1 := hf 3 _ rfl
  rw [z88] at f3
  exact ⟨n, c0, c1, c2, c3, c4, c5, c6, c7, c8, rfl, f0, f1, f2, f3⟩
theorem rdF96 (h : DataW.trod enc Tryz.prog w base spare held fuel 96 cs = some x) (hW : WOk Tryz.prog 96 x.1) : ∃ n c0 c1 c2, cs = [c0, c1, c2] ∧ (∃ y, DataW.trod enc Tryz.prog w base spare held n 3 [c0] = some y ∧ WOk Tryz.prog 3 y.1) ∧ (∃ y, DataW.trod enc Tryz.prog w base spare held n 3 [c1] = some y ∧ WOk Tryz.prog 3 y.1) ∧ (∃ y, DataW.trod enc Tryz.prog w base spare held n 3 [c2] = some y ∧ WOk Tryz.prog 3 y.1) := by
  have z3 : Tryz.prog.cellsOf 3 = 1 := by kernel_rfl
  obtain ⟨hl, n, hf⟩ := rdw_fields Tryz.underlying96 h hW
  have hz : Tryz.prog.cellsOf 96 = 3 := by kernel_rfl
  rw [hz] at hl
  obtain ⟨c0, c1, c2, rfl⟩ := three_of hl
  have f0 : ∃ y, DataW.trod enc Tryz.prog w base spare held n 3 ((List.drop 0 [c0, c1, c2]).take (Tryz.prog.cellsOf 3)) = some y ∧ WOk Tryz.prog 3 y.1 := hf 0 _ rfl
  rw [z3] at f0
  have f1 : ∃ y, DataW.trod enc Tryz.prog w base spare held n 3 ((List.drop 1 [c0, c1, c2]).take (Tryz.prog.cellsOf 3)) = some y ∧ WOk Tryz.prog 3 y.1 := hf 1 _ rfl
  rw [z3] at f1
  have f2 : ∃ y, DataW.trod enc Tryz.prog w base spare held n 3 ((List.drop 2 [c0, c1, c2]).take (Tryz.prog.cellsOf 3)) = some y ∧ WOk Tryz.prog 3 y.1 := hf 2 _ rfl
  rw [z3] at f2
  exact ⟨n, c0, c1, c2, rfl, f0, f1, f2⟩
theorem rdF97 (h : DataW.trod enc Tryz.prog w base spare held fuel 97 cs = some x) : ∃ n c0 c1, cs = [c0, c1] ∧ (∃ y, DataW.trod enc Tryz.prog w base spare held n 52 [c0] = some y) ∧ (∃ y, DataW.trod enc Tryz.prog w base spare held n 52 [c1] = some y) := by
  have z52 : Tryz.prog.cellsOf 52 = 1 := by kernel_rfl
  obtain ⟨hl, n, hf⟩ := rd_elems Tryz.underlying97 z52 h
  have hz : Tryz.prog.cellsOf 97 = 2 := by kernel_rfl
  rw [hz] at hl
  obtain ⟨c0, c1, rfl⟩ := two_of hl
  have f0 : ∃ y, DataW.trod enc Tryz.prog w base spare held n 52 [c0] = some y := hf 0 (by omega)
  have f1 : ∃ y, DataW.trod enc Tryz.prog w base spare held n 52 [c1] = some y := hf 1 (by omega)
  exact ⟨n, c0, c1, rfl, f0, f1⟩
theorem rdF202 (h : DataW.trod enc Tryz.prog w base spare held fuel 202 cs = some x) (hW : WOk Tryz.prog 202 x.1) : ∃ n c0 c1, cs = [c0, c1] ∧ (∃ y, DataW.trod enc Tryz.prog w base spare held n 3 [c0] = some y ∧ WOk Tryz.prog 3 y.1) ∧ (∃ y, DataW.trod enc Tryz.prog w base spare held n 3 [c1] = some y ∧ WOk Tryz.prog 3 y.1) := by
  have z3 : Tryz.prog.cellsOf 3 = 1 := by kernel_rfl
  obtain ⟨hl, n, hf⟩ := rdw_fields Tryz.underlying202 h hW
  have hz : Tryz.prog.cellsOf 202 = 2 := by kernel_rfl
  rw [hz] at hl
  obtain ⟨c0, c1, rfl⟩ := two_of hl
  have f0 : ∃ y, DataW.trod enc Tryz.prog w base spare held n 3 ((List.drop 0 [c0, c1]).take (Tryz.prog.cellsOf 3)) = some y ∧ WOk Tryz.prog 3 y.1 := hf 0 _ rfl
  rw [z3] at f0
  have f1 : ∃ y, DataW.trod enc Tryz.prog w base spare held n 3 ((List.drop 1 [c0, c1]).take (Tryz.prog.cellsOf 3)) = some y ∧ WOk Tryz.prog 3 y.1 := hf 1 _ rfl
  rw [z3] at f1
  exact ⟨n, c0, c1, rfl, f0, f1⟩
theorem rdF204 (h : DataW.trod enc Tryz.prog w base spare held fuel 204 cs = some x) (hW : WOk Tryz.prog 204 x.1) : ∃ n c0 c1 c2 c3, cs = [c0, c1, c2, c3] ∧ (∃ y, DataW.trod enc Tryz.prog w base spare held n 9 [c0] = some y ∧ WOk Tryz.prog 9 y.1) ∧ (∃ y, DataW.trod enc Tryz.prog w base spare held n 3 [c1] = some y ∧ WOk Tryz.prog 3 y.1) ∧ (∃ y, DataW.trod enc Tryz.prog w base spare held n 3 [c2] = some y ∧ WOk Tryz.prog 3 y.1) ∧ (∃ y, DataW.trod enc Tryz.prog w base spare held n 3 [c3] = some y ∧ WOk Tryz.prog 3 y.1) := by
  have z3 : Tryz.prog.cellsOf 3 = 1 := by kernel_rfl
  have z9 : Tryz.prog.cellsOf 9 = 1 := by kernel_rfl
  obtain ⟨hl, n, hf⟩ := rdw_fields Tryz.underlying204 h hW
  have hz : Tryz.prog.cellsOf 204 = 4 := by kernel_rfl
  rw [hz] at hl
  obtain ⟨c0, c1, c2, c3, rfl⟩ := four_of hl
  have f0 : ∃ y, DataW.trod enc Tryz.prog w base spare held n 9 ((List.drop 0 [c0, c1, c2, c3]).take (Tryz.prog.cellsOf 9)) = some y ∧ WOk Tryz.prog 9 y.1 := hf 0 _ rfl
  rw [z9] at f0
  have f1 : ∃ y, DataW.trod enc Tryz.prog w base spare held n 3 ((List.drop 1 [c0, c1, c2, c3]).take (Tryz.prog.cellsOf 3)) = some y ∧ WOk Tryz.prog 3 y.1 := hf 1 _ rfl
  rw [z3] at f1
  have f2 : ∃ y, DataW.trod enc Tryz.prog w base spare held n 3 ((List.drop 2 [c0, c1, c2, c3]).take (Tryz.prog.cellsOf 3)) = some y ∧ WOk Tryz.prog 3 y.1 := hf 2 _ rfl
  rw [z3] at f2
  have f3 : ∃ y, DataW.trod enc Tryz.prog w base spare held n 3 ((List.drop 3 [c0, c1, c2, c3]).take (Tryz.prog.cellsOf 3)) = some y ∧ WOk Tryz.prog 3 y.1 := hf 3 _ rfl
  rw [z3] at f3
  exact ⟨n, c0, c1, c2, c3, rfl, f0, f1, f2, f3⟩
end
end Go.Proofs.YtmoilbakmlekbaaGreatDoor

/- part Rd3 -/
namespace Go.Proofs.YtmoilbakmlekbaaGreatDoor
open Go Bx
theorem rd_BRow : RdW Tryz.prog 202 RBrow := by
  intro H enc w base spare held fuel cs x h hW
  obtain ⟨n, c0, c1, rfl, ⟨y0, f0, k0⟩, ⟨y1, f1, k1⟩⟩ := rdF202 h hW
  obtain ⟨a0, g0⟩ := (Rd.w (rd_int Tryz.underlying3)) _ _ _ _ _ _ _ _ _ f0 k0
  obtain ⟨a1, g1⟩ := (Rd.w (rd_int Tryz.underlying3)) _ _ _ _ _ _ _ _ _ f1 k1
  obtain ⟨e0, i0⟩ := g0; obtain ⟨e1, i1⟩ := g1; cases e0; cases e1; exact ⟨⟨a0, a1⟩, rfl, i0, i1⟩
theorem rd_BRows : RdW Tryz.prog 82 (fun w cs (l : List BRow) => ∃ v, cs = [v] ∧ Sl w 2 RBrow v l ∧ l.length * 16 ≤ 140737488351232) := rdw_slice rd_BRow (by kernel_rfl) (by decide) Tryz.underlying82 (by kernel_rfl)
theorem rd_Pol : RdW Tryz.prog 204 RPol := by
  intro H enc w base spare held fuel cs x h hW
  obtain ⟨n, c0, c1, c2, c3, rfl, ⟨y0, f0, k0⟩, ⟨y1, f1, k1⟩, ⟨y2, f2, k2⟩, ⟨y3, f3, k3⟩⟩ := rdF204 h hW
  obtain ⟨a0, g0⟩ := (Rd.w (rd_str Tryz.underlying9)) _ _ _ _ _ _ _ _ _ f0 k0
  obtain ⟨a1, g1⟩ := (Rd.w (rd_int Tryz.underlying3)) _ _ _ _ _ _ _ _ _ f1 k1
  obtain ⟨a2, g2⟩ := (Rd.w (rd_int Tryz.underlying3)) _ _ _ _ _ _ _ _ _ f2 k2
  obtain ⟨a3, g3⟩ := (Rd.w (rd_int Tryz.underlying3)) _ _ _ _ _ _ _ _ _ f3 k3
  obtain ⟨e0, i0⟩ := g0; obtain ⟨e1, i1⟩ := g1; obtain ⟨e2, i2⟩ := g2; obtain ⟨e3, i3⟩ := g3; cases e0; cases e1; cases e2; cases e3; exact ⟨⟨a0, a1, a2, a3⟩, rfl, i0, i1, i2, i3⟩
theorem rd_Pols : RdW Tryz.prog 83 (fun w cs (l : List Pol) => ∃ v, cs = [v] ∧ Sl w 4 RPol v l ∧ l.length * 40 ≤ 140737488351232) := rdw_slice rd_Pol (by kernel_rfl) (by decide) Tryz.underlying83 (by kernel_rfl)
theorem rd_Bas : RdW Tryz.prog 85 RBas := by
  intro H enc w base spare held fuel cs x h hW
  obtain ⟨n, c0, c1, c2, c3, c4, rfl, ⟨y0, f0, k0⟩, ⟨y1, f1, k1⟩, ⟨y2, f2, k2⟩, ⟨y3, f3, k3⟩, ⟨y4, f4, k4⟩⟩ := rdF85 h hW
  obtain ⟨a0, g0⟩ := rd_BRows _ _ _ _ _ _ _ _ _ f0 k0
  obtain ⟨a1, g1⟩ := (Rd.w (rd_int Tryz.underlying3)) _ _ _ _ _ _ _ _ _ f1 k1
  obtain ⟨a2, g2⟩ := (Rd.w (rd_int Tryz.underlying3)) _ _ _ _ _ _ _ _ _ f2 k2
  obtain ⟨a3, g3⟩ := (Rd.w (rd_int Tryz.underlying3)) _ _ _ _ _ _ _ _ _ f3 k3
  obtain ⟨a4, g4⟩ := rd_Pols _ _ _ _ _ _ _ _ _ f4 k4
  obtain ⟨e1, i1⟩ := g1; obtain ⟨e2, i2⟩ := g2; obtain ⟨e3, i3⟩ := g3; obtain ⟨v0, e0, i0, r0⟩ := g0; obtain ⟨v4, e4, i4, r4⟩ := g4; cases e0; cases e1; cases e2; cases e3; cases e4; exact ⟨⟨a0, a1, a2, a3, a4⟩, _, _, rfl, i0, i1, i2, i3, i4⟩
theorem rd_Bst : RdW Tryz.prog 87 RBst := by
  intro H enc w base spare held fuel cs x h hW
  obtain ⟨n, c0, c1, rfl, ⟨y0, f0, k0⟩, ⟨y1, f1, k1⟩⟩ := rdF87 h hW
  obtain ⟨a0, g0⟩ := (Rd.w (rd_int Tryz.underlying3)) _ _ _ _ _ _ _ _ _ f0 k0
  obtain ⟨a1, g1⟩ := rd_Ints _ _ _ _ _ _ _ _ _ f1 k1
  obtain ⟨e0, i0⟩ := g0; obtain ⟨v1, e1, i1, r1⟩ := g1; cases e0; cases e1; exact ⟨⟨a0, a1⟩, _, rfl, i0, i1, r1⟩
theorem rd_Btk : RdW Tryz.prog 96 RBtk := by
  intro H enc w base spare held fuel cs x h hW
  obtain ⟨n, c0, c1, c2, rfl, ⟨y0, f0, k0⟩, ⟨y1, f1, k1⟩, ⟨y2, f2, k2⟩⟩ := rdF96 h hW
  obtain ⟨a0, g0⟩ := (Rd.w (rd_int Tryz.underlying3)) _ _ _ _ _ _ _ _ _ f0 k0
  obtain ⟨a1, g1⟩ := (Rd.w (rd_int Tryz.underlying3)) _ _ _ _ _ _ _ _ _ f1 k1
  obtain ⟨a2, g2⟩ := (Rd.w (rd_int Tryz.underlying3)) _ _ _ _ _ _ _ _ _ f2 k2
  obtain ⟨e0, i0⟩ := g0; obtain ⟨e1, i1⟩ := g1; obtain ⟨e2, i2⟩ := g2; cases e0; cases e1; cases e2; exact ⟨⟨a0, a1, a2⟩, rfl, i0, i1, i2⟩
theorem rd_Tks : RdW Tryz.prog 94 (fun w cs (l : List BTk) => ∃ v, cs = [v] ∧ Sl w 3 RBtk v l ∧ l.length * 24 ≤ 140737488351232) := rdw_slice rd_Btk (by kernel_rfl) (by decide) Tryz.underlying94 (by kernel_rfl)
theorem rd_TksW : RdW Tryz.prog 94 RTksW := rd_Tks
theorem rd_Tkss : RdW Tryz.prog 88 (fun w cs (l : List (List BTk)) => ∃ v, cs = [v] ∧ Sl w 1 RTksW v l ∧ l.length * 24 ≤ 140737488351232) := rdw_slice rd_TksW (by kernel_rfl) (by decide) Tryz.underlying88 (by kernel_rfl)
theorem rd_Wtr : RdW Tryz.prog 90 RWtr := by
  intro H enc w base spare held fuel cs x h hW
  obtain ⟨n, c0, c1, c2, c3, c4, c5, c6, c7, c8, rfl, ⟨y0, f0, k0⟩, ⟨y1, f1, k1⟩, ⟨y2, f2, k2⟩, ⟨y3, f3, k3⟩⟩ := rdF90 h hW
  obtain ⟨a0, g0⟩ := rd_Bas _ _ _ _ _ _ _ _ _ f0 k0
  obtain ⟨a1, g1⟩ := rd_Bst _ _ _ _ _ _ _ _ _ f1 k1
  obtain ⟨a2, g2⟩ := (Rd.w (rd_int Tryz.underlying3)) _ _ _ _ _ _ _ _ _ f2 k2
  obtain ⟨a3, g3⟩ := rd_Tkss _ _ _ _ _ _ _ _ _ f3 k3
  obtain ⟨rv, pv, e0, i0⟩ := g0; obtain ⟨fv, e1, i1⟩ := g1; obtain ⟨e2, i2⟩ := g2; obtain ⟨v3, e3, i3, r3⟩ := g3; cases e0; cases e1; cases e2; cases e3; exact ⟨⟨a0, a1, a2, a3⟩, _, _, _, _, rfl, ⟨_, _, rfl, i0⟩, ⟨_, rfl, i1⟩, i2, i3⟩
theorem rd_TwoS : RdW Tryz.prog 97 RTwoS := by
  intro H enc w base spare held fuel cs x h hW
  obtain ⟨n, c0, c1, rfl, ⟨y0, f0⟩, ⟨y1, f1⟩⟩ := rdF97 h
  obtain ⟨a0, e0, i0⟩ := rd_u16 Tryz.underlying52 _ _ _ _ _ _ _ _ _ f0
  obtain ⟨a1, e1, i1⟩ := rd_u16 Tryz.underlying52 _ _ _ _ _ _ _ _ _ f1
  cases e0; cases e1; exact ⟨(a0, a1), rfl, i0, i1⟩
theorem rd_TwoSs : RdW Tryz.prog 93 (fun w cs (l : List (Int × Int)) => ∃ v, cs = [v] ∧ Sl w 2 RTwoS v l ∧ l.length * 4 ≤ 140737488351232) := rdw_slice rd_TwoS (by kernel_rfl) (by decide) Tryz.underlying93 (by kernel_rfl)
end Go.Proofs.YtmoilbakmlekbaaGreatDoor

/- part Laid -/
namespace Go.Proofs.YtmoilbakmlekbaaGreatDoor
open Go Bx Go.ChangeShapes Go.WideShapes Go.RowKit
theorem laidEt : Tryz.prog.globalNamed "errors.errorType" = some 0 := by kernel_rfl
theorem laidRt : (Tryz.prog.cutTypes.find? (·.1 == "internal/reflectlite.rtype")).map (·.2) = some 217 := by kernel_rfl
theorem laidOne : ((List.range 309).filter fun t => Tryz.prog.rowNamed t [101, 114, 114, 111, 114]) = [120] := by kernel_rfl
theorem laidSize : Tryz.prog.types.size = 309 := by kernel_rfl
theorem glb_of_laid {W : World} (h : laidMetH Tryz.prog [("errors.errorType", Rows.laid_errors_errorType)] W) : Glb W := by
  have h' : laidMet Tryz.prog [] W ∧ handlesMet Tryz.prog [("errors.errorType", Rows.laid_errors_errorType)] W := h
  obtain ⟨name, u, ty, e1, e2, e3, e4, e5⟩ := h'.2 _ (List.mem_singleton.2 rfl)
  have en : name = [101, 114, 114, 111, 114] := (Option.some.inj e1).symm
  subst en
  obtain rfl := Option.some.inj (laidRt.symm.trans e2)
  have hm : ty ∈ (List.range 309).filter fun t => Tryz.prog.rowNamed t [101, 114, 114, 111, 114] := List.mem_filter.2 ⟨List.mem_range.2 (by rw [← laidSize]; exact e3), e4⟩
  rw [laidOne] at hm
  obtain rfl := List.mem_singleton.1 hm
  have hh : typeHandle Tryz.prog 120 = .pointer (some ⟨1, 120, none⟩) := by kernel_rfl
  rw [hh] at e5
  simpa [Glb] using World.var?_cell laidEt e5 0
noncomputable def laidWorld (os : Os) : World :=
  let w0 := World.holding Tryz.prog os ⟨#[], #[], []⟩
  { w0 with heap := w0.heap.modify 0 fun
      | .cells _ t frozen => .cells #[.iface 217 (.agg #[.pointer (some ⟨1, 120, none⟩)])] t frozen
      | o => o }
theorem laidWorld_met (os : Os) (args : Array Value) : laidMetH Tryz.prog [("errors.errorType", Rows.laid_errors_errorType)] ((laidWorld os).forCall (fun _ _ => 0) ⟨#[], args, []⟩).memory :=
  laidMetH_of_parts (laidMet_nil _ _) (by kernel_rfl)
end Go.Proofs.YtmoilbakmlekbaaGreatDoor

