/- Merged texts, part 4. -/
import Derived.Test.YtmoilbakmlekbaaGreatDoorQ3
set_option linter.all false
/- part Aw12 -/
namespace Go.Proofs.YtmoilbakmlekbaaGreatDoor
open Go Bx
set_option maxHeartbeats 4000000 in
/-- barrage/alarm.Plan -/
theorem c_Plan {t : Task} {hv nv fv : Value} {now : Int} {w0 : World} (hg : Glb w0) (h : RTask w0 [.int .i64 t.polders, hv, nv, fv] t) : CE Tryz.prog 18 #[.agg [.int .i64 t.polders, hv, nv, fv].toArray, .int .i64 now] w0 (fun u w' => ∃ v, u = .tuple #[v, .int .i64 (planR t now).2] ∧ St w0 w' [rowI v 38 3 ((planR t now).1).length (((planR t now).1).flatMap slotC)]) := by
  obtain ⟨hv', nv', fv', he0, hpol, hsh, hsn, hsf⟩ := id h
  obtain ⟨rfl, rfl, rfl⟩ : hv' = hv ∧ nv' = nv ∧ fv' = fv := by simpa [eq_comm] using he0
  obtain ⟨a1, cap1, rfl, hcap1, hmx1, hel1⟩ := id hsh
  obtain ⟨a2, cap2, rfl, hcap2, hmx2, hel2⟩ := id hsn
  obtain ⟨a3, cap3, rfl, hcap3, hmx3, hel3⟩ := id hsf
  refine enterX Tryz.func18 rfl Tryz.ntmps18 rfl ?_
  have hS := St.start w0
  refine seqX ?_
  refine regionX rfl ?_
  refine sbox hS rfl rfl ?_; clear hS; intro b2 w hS
  refine sv (yAsg rfl) ?_
  refine sv (yAsg rfl) ?_
  refine nil ?_
  show Code.wpIn _ _ _ _ _ _ _
  refine seqX ?_
  refine regionX rfl ?_
  refine sv (yLdBA rfl Tryz.isAgg26 Tryz.sizeOf26 (hS.at _) rfl rfl) ?_
  refine sv (yMove rfl) ?_
  refine scall Tryz.call47 (.cons rfl (.cons rfl .nil)) (c_at (hg.ext hS.ext) (h.ext hS.ext)) ?_
  rintro _ w (⟨he, rfl, hE⟩ | ⟨he, bb, b1, bz, rfl, hM⟩)
  ·
    replace hS := hS.step hE; clear hE
    refine sv (yMove rfl) ?_
    refine sv (yExt rfl rfl) ?_
    refine sv (yExt rfl rfl) ?_
    refine sv (yAsg rfl) ?_
    refine sv (yAsg rfl) ?_
    refine nil ?_
    show Code.wpIn _ _ _ _ _ _ _
    refine seqX ?_
    refine seqX ?_
    refine regionX rfl ?_
    refine sv (yMove rfl) ?_
    refine sv (yNeq rfl rfl) ?_
    refine nil ?_
    show Code.wpIn _ _ _ _ _ _ _
    refine condX rfl (fun c22 => ?_) (fun c22 => ?_)
    ·
      simp only [BS, ne_eq] at c22
      refine seqX ?_
      refine regionX rfl ?_
      refine sv (yMove rfl) ?_
      refine sv (yAsg rfl) ?_
      refine sv (yAsg rfl) ?_
      refine nil ?_
      show Code.wpIn _ _ _ _ _ _ _
      refine wpIn_ret (thenR ?_)
      refine leafX (res2 rfl rfl rfl) ?_
      have hf : planR t now = ([], atE t now) := by unfold planR; rw [if_pos he]
      rw [hf]
      exact ⟨.slice none 0 0, rfl, (hS.nilrow 38 3).sub (.cons_cons _ (List.nil_sublist _))⟩
    ·
      simp only [BS, ne_eq] at c22
      exact absurd c22 he
  ·
    replace hS := hS.call hM; clear hM
    obtain ⟨hok, hn⟩ := atE_ok he
    replace hS : StX [] w0 w [blk bb [.int .i64 t.polders, .slice a1 t.chans.length cap1, .slice a2 t.towns.length cap2, .slice a3 t.floods.length cap3, .slice (some ⟨b1, 0, none⟩) t.towns.length t.towns.length, .slice (some ⟨bz, 0, none⟩) t.towns.length t.towns.length] 141, blk b1 ((arrS t).flatMap spanC) 44, blk bz ((arrN t).flatMap Bx.encI) 3, blk b2 [.int .i64 t.polders, .slice a1 t.chans.length cap1, .slice a2 t.towns.length cap2, .slice a3 t.floods.length cap3] 26] := hS
    have hB : RBoard w bb t := board_mk (hS.at bb) (h.ext hS.ext) hok (hS.at b1) (hS.at bz)
    have hE0 := hS.ext
    obtain ⟨w0, hwq⟩ : ∃ wq, wq = w := ⟨w, rfl⟩
    rw [← hwq] at hE0 hB
    replace hS : StX [] w0 w [] := by rw [hwq]; exact St.start w
    clear hwq
    have hwl := wetL_len t
    have hn8 := hok.ntw
    refine sv (yMove rfl) ?_
    refine sv (yExt rfl rfl) ?_
    refine sv (yExt rfl rfl) ?_
    refine sv (yAsg rfl) ?_
    refine sv (yAsg rfl) ?_
    refine nil ?_
    show Code.wpIn _ _ _ _ _ _ _
    refine seqX ?_
    refine seqX ?_
    refine regionX rfl ?_
    refine sv (yMove rfl) ?_
    refine sv (yNeq rfl rfl) ?_
    refine nil ?_
    show Code.wpIn _ _ _ _ _ _ _
    refine condX rfl (fun c22 => ?_) (fun c22 => ?_)
    ·
      exact absurd c22 (by decide)
    ·
      refine skipX ?_
      show Code.wpIn _ _ _ _ _ _ _
      refine seqX ?_
      refine regionX rfl ?_
      refine sv (yMove rfl) ?_
      refine sv (yMove rfl) ?_
      refine sv (yMove rfl) ?_
      refine scall Tryz.call48 (.cons rfl .nil) (c_wet (hB.ext hS.ext)) ?_
      rintro tv w hM; replace hS := hS.call1 hM; clear hM
      obtain ⟨aw, cw, rfl⟩ := row_shape (hS.row tv)
      refine smkmapF encSt (Value.int .i64) hS ?_; clear hS; intro b28 w hS
      refine smkmapF (Value.int .i64) encSt hS ?_; clear hS; intro b29 w hS
      refine sv (yBuild Tryz.zeroValue108 rfl pl108 (.cons rfl rfl (.cons rfl rfl (.cons rfl rfl (.cons rfl rfl (.cons rfl rfl .nil))))) rfl) ?_
      refine sbox hS rfl rfl ?_; clear hS; intro b31 w hS
      refine salloc hS Tryz.zeroValue103 rfl ?_; clear hS; intro b7 w hS
      refine sst hS rfl rfl Tryz.sizeOf103 rfl rfl rfl rfl ?_; clear hS; intro w hS
      refine nil ?_
      show Code.wpIn _ _ _ _ _ _ _
      refine seqX ?_
      refine regionX rfl ?_
      refine smkmapF (Value.int .i64) Value.bool hS ?_; clear hS; intro b32 w hS
      rw [tr_nil] at hS
      refine salloc hS Tryz.zeroValue109 rfl ?_; clear hS; intro b8 w hS
      refine sst hS rfl rfl Tryz.sizeOf109 rfl rfl rfl rfl ?_; clear hS; intro w hS
      refine nil ?_
      show Code.wpIn _ _ _ _ _ _ _
      refine seqX ?_
      refine seqX ?_
      refine regionX rfl ?_
      refine sv (yLdB rfl Tryz.isAgg103 (hS.at _) rfl) ?_
      refine sv (yNil rfl) ?_
      refine sv (fa108_2 rfl) ?_
      refine sv (yLdB rfl Tryz.isAgg34 (hS.at b31) rfl) ?_
      refine sv (yLen rfl Tryz.underlying34) ?_
      refine sv (yMove rfl) ?_
      refine nil ?_
      show Code.wpIn _ _ _ _ _ _ _
      refine blockX ?_
      refine loopX (fun f w zz => ∃ (k : Nat) (tk : Seat → Option Int) (st : Int → Option Seat), f 1 = .int .i64 now ∧ f 4 = .slice none 0 0 ∧ f 7 = .pointer (some ⟨b7, 0, none⟩) ∧ f 8 = .pointer (some ⟨b8, 0, none⟩) ∧ f 36 = .slice aw (wetL t).length cw ∧ f 37 = .int .i64 ((wetL t).length : Int) ∧ f 38 = .int .i64 (k : Int) ∧ StX [] w0 w (blk b31 [.pointer (some ⟨bb, 0, none⟩), .int .i64 now, .slice aw (wetL t).length cw, .map (some b28), .map (some b29)] 108 :: mapF b28 encSt (Value.int .i64) (tk) :: mapF b29 (Value.int .i64) encSt (st) :: mapF b32 (Value.int .i64) Value.bool (trF (fun _ => false)) :: blk b8 [.map (some b32)] 109 :: blk b7 [.pointer (some ⟨b31, 0, none⟩)] 103 :: rowI (.slice aw (wetL t).length cw) 3 1 (wetL t).length ((wetL t).flatMap Bx.encI) :: []) ∧ (k ≤ (wetL t).length) ∧ (Vld t tk) ∧ ((plT t now).seatAll (fuelT t) (wetL t) (fun _ => none) (fun _ => none) = (plT t now).seatAll (fuelT t) ((wetL t).drop k) tk st) ∧ zz = (wetL t).length - k) _ ⟨_, rfl, 0, _, _, rfl, rfl, rfl, rfl, rfl, rfl, rfl, (StX.front (A := [_, _, _, _, _]) (StX.front (A := [_, _, _, _, _]) (StX.front (A := [_, _, _, _]) (StX.front (A := [_]) hS)))), (Nat.zero_le _), (fun _ _ h => (nomatch h)), (by rw [List.drop_zero]), rfl⟩ ?_
      clear hS
      rintro f w _ ⟨k, tk, st, h1, h4, h7, h8, h36, h37, h38, hS, hk, hvl, hI, rfl⟩
      refine seqX ?_
      refine regionX rfl ?_
      refine sv (yLss h38 h37) ?_
      refine nil ?_
      show Code.wpIn _ _ _ _ _ _ _
      refine seqX ?_
      refine condX rfl (fun c39 => ?_) (fun c39 => ?_)
      ·
        simp only [BS, ne_eq] at c39
        obtain ⟨x, hx, hd⟩ := drop_of (l := (wetL t)) (k := k) (by omega)
        obtain ⟨ge, hae, -⟩ := row_get (hS.row (.slice aw (wetL t).length cw)) (by omega)
        have hxi := (mem_wetL.1 (List.mem_of_getElem? hx)).1
        refine skipX ?_
        show Code.wpIn _ _ _ _ _ _ _
        refine seqX ?_
        refine blockX ?_
        refine seqX ?_
        refine regionX rfl ?_
        refine sv (yIxa h36 hae h38 Tryz.runUnderlying34 Tryz.sizeOf3 (by omega) (by omega)) ?_
        refine sv (yLd rfl Tryz.isAgg3 ((flat_cells (enc := Bx.encI) encI_len (row_at (hS.row (.slice aw (wetL t).length cw)) hae (by omega)) hx).one)) ?_
        refine sv (yAsg rfl) ?_
        refine nil ?_
        show Code.wpIn _ _ _ _ _ _ _
        refine seqX ?_
        refine regionX rfl ?_
        refine sv (yLdB h7 Tryz.isAgg103 (hS.at _) rfl) ?_
        refine sv (yMove rfl) ?_
        refine sv (yLdB h8 Tryz.isAgg109 (hS.at _) rfl) ?_
        refine scall Tryz.call49 (.cons rfl (.cons rfl (.cons rfl .nil))) (c_settle (L9 := [blk b8 [.map (some b32)] 109, blk b7 [.pointer (some ⟨b31, 0, none⟩)] 103, rowI (.slice aw (wetL t).length cw) 3 1 (wetL t).length ((wetL t).flatMap Bx.encI)]) hB hn (fuel_UU hok now) hvl hxi hS) ?_
        rintro _ w ⟨rfl, hM⟩; clear hS; replace hS := hM; clear hM
        refine sv (yNot rfl) ?_
        refine nil ?_
        show Code.wpIn _ _ _ _ _ _ _
        refine condX rfl (fun c46 => ?_) (fun c46 => ?_)
        ·
          have c46 : ((plT t now).settle (fuelT t) (fun _ => false) x tk st).1 = false := by simpa using c46
          refine seqX ?_
          refine regionX rfl ?_
          refine sv (yAsg rfl) ?_
          refine sv (yAsg rfl) ?_
          refine nil ?_
          show Code.wpIn _ _ _ _ _ _ _
          refine wpIn_ret (blockR (thenR (thenR (blockR (thenR ?_)))))
          refine leafX (res2 rfl rfl rfl) ?_
          have hpl : planA t now = none := by
            unfold planA Pl.plan
            rw [show (plT t now).W = (wetL t) from rfl, hI, hd, Pl.seatAll, if_neg (by rw [c46]; decide)]
          have hf : planR t now = ([], 9) := by unfold planR; rw [if_neg (fun h => h he), hpl]
          rw [hf]
          exact ⟨.slice none 0 0, rfl, StX.base hE0 ((hS.nilrow 38 3).sub (.cons_cons _ (List.nil_sublist _)))⟩
        ·
          have c46 : ((plT t now).settle (fuelT t) (fun _ => false) x tk st).1 = true := by simpa using c46
          refine skipX ?_
          show Code.wpIn _ _ _ _ _ _ _
          refine regionX rfl ?_
          refine sv (yAdd h38 rfl ⟨by omega, by omega⟩) ?_
          refine sv (yMove rfl) ?_
          refine nil ?_
          exact ⟨_, _, rfl, ⟨k + 1, _, _, h1, h4, h7, h8, h36, h37, rfl, hS, (by omega), (vld_settle hvl hxi), (by rw [hI, hd, Pl.seatAll, if_pos c46]), rfl⟩, by omega⟩
      ·
        simp only [BS, ne_eq] at c39
        obtain rfl : k = (wetL t).length := by omega
        rw [List.drop_length, Pl.seatAll] at hI
        have hpl : planA t now = some ((plT t now).fixAll (fuelT t) (wetL t) ⟨tk, st, fun _ => false⟩) := by
          unfold planA Pl.plan
          rw [show (plT t now).W = (wetL t) from rfl, hI]
        have hf : planR t now = ((plT t now).fixAll (fuelT t) (wetL t) ⟨tk, st, fun _ => false⟩, 0) := by unfold planR; rw [if_neg (fun h => h he), hpl]
        refine exitX ?_
        show Code.wpIn _ _ _ _ _ _ _
        refine seqX ?_
        refine seqX ?_
        refine regionX rfl ?_
        refine sv (yLdB h7 Tryz.isAgg103 (hS.at _) rfl) ?_
        refine sv (yNil rfl) ?_
        refine sv (fa108_2 rfl) ?_
        refine sv (yLdB rfl Tryz.isAgg34 (hS.at b31) rfl) ?_
        refine sv (yLen rfl Tryz.underlying34) ?_
        refine sv (yMove rfl) ?_
        refine nil ?_
        show Code.wpIn _ _ _ _ _ _ _
        refine blockX ?_
        refine loopM (fun f ds w zz => ∃ (Ds : List Nat), ∃ (k : Nat) (p : Pst) (mt ms : Nat) (v : Value) (outs : List Slot), ds = Ds.map coll ∧ f 1 = .int .i64 now ∧ f 4 = v ∧ f 7 = .pointer (some ⟨b7, 0, none⟩) ∧ f 8 = .pointer (some ⟨b8, 0, none⟩) ∧ f 51 = .slice aw (wetL t).length cw ∧ f 52 = .int .i64 ((wetL t).length : Int) ∧ f 53 = .int .i64 (k : Int) ∧ StX [] w0 w (packI (marks Ds) :: rowI v 38 3 (outs).length ((outs).flatMap slotC) :: blk b31 [.pointer (some ⟨bb, 0, none⟩), .int .i64 now, .slice aw (wetL t).length cw, .map (some mt), .map (some ms)] 108 :: mapF mt encSt (Value.int .i64) (p.taken) :: mapF ms (Value.int .i64) encSt (p.seats) :: mapF b32 (Value.int .i64) Value.bool (trF (p.fixed)) :: blk b8 [.map (some b32)] 109 :: blk b7 [.pointer (some ⟨b31, 0, none⟩)] 103 :: rowI (.slice aw (wetL t).length cw) 3 1 (wetL t).length ((wetL t).flatMap Bx.encI) :: []) ∧ (k ≤ (wetL t).length) ∧ (Vld t p.taken) ∧ (outs.length = k) ∧ ((planR t now).1 = outs ++ (plT t now).fixAll (fuelT t) ((wetL t).drop k) p) ∧ zz = (wetL t).length - k) _ ⟨_, _, rfl, [], 0, ⟨tk, st, fun _ => false⟩, b28, b29, .slice none 0 0, [], rfl, h1, h4, h7, h8, rfl, rfl, rfl, (hS.nilrow 38 3).mark0, (Nat.zero_le _), (hvl), (rfl), (by rw [hf]; rfl), rfl⟩ ?_
        clear hS
        rintro f _ w _ ⟨Ds, k, p, mt, ms, v, outs, rfl, h1, h4, h7, h8, h51, h52, h53, hS, hk, hvl, hol, hI2, rfl⟩
        refine seqX ?_
        refine regionX rfl ?_
        refine sv (yLss h53 h52) ?_
        refine nil ?_
        show Code.wpIn _ _ _ _ _ _ _
        refine seqX ?_
        refine condX rfl (fun c54 => ?_) (fun c54 => ?_)
        ·
          simp only [BS, ne_eq] at c54
          obtain ⟨x, hx, hd⟩ := drop_of (l := (wetL t)) (k := k) (by omega)
          obtain ⟨ge, hae, -⟩ := row_get (hS.row (.slice aw (wetL t).length cw)) (by omega)
          have hxi := (mem_wetL.1 (List.mem_of_getElem? hx)).1
          refine skipX ?_
          show Code.wpIn _ _ _ _ _ _ _
          refine seqX ?_
          refine blockX ?_
          refine seqX ?_
          refine regionX rfl ?_
          refine sv (yIxa h51 hae h53 Tryz.runUnderlying34 Tryz.sizeOf3 (by omega) (by omega)) ?_
          refine sv (yLd rfl Tryz.isAgg3 ((flat_cells (enc := Bx.encI) encI_len (row_at (hS.row (.slice aw (wetL t).length cw)) hae (by omega)) hx).one)) ?_
          refine salloc hS Tryz.zeroValue3 rfl ?_; clear hS; intro b12 w hS
          refine sst hS rfl rfl Tryz.sizeOf3 rfl rfl rfl rfl ?_; clear hS; intro w hS
          refine nil ?_
          show Code.wpIn _ _ _ _ _ _ _
          refine seqMJ (n := 83) (fun f ds w => ∃ (Ds : List Nat), ∃ (q : Pst) (mt ms : Nat), ds = Ds.map coll ∧ f 1 = .int .i64 now ∧ f 4 = v ∧ f 7 = .pointer (some ⟨b7, 0, none⟩) ∧ f 8 = .pointer (some ⟨b8, 0, none⟩) ∧ f 12 = .pointer (some ⟨b12, 0, none⟩) ∧ f 51 = .slice aw (wetL t).length cw ∧ f 52 = .int .i64 ((wetL t).length : Int) ∧ f 53 = .int .i64 (k : Int) ∧ StX [] w0 w (blk b12 [.int .i64 x] 3 :: packI (marks Ds) :: rowI v 38 3 (outs).length ((outs).flatMap slotC) :: blk b31 [.pointer (some ⟨bb, 0, none⟩), .int .i64 now, .slice aw (wetL t).length cw, .map (some mt), .map (some ms)] 108 :: mapF mt encSt (Value.int .i64) (q.taken) :: mapF ms (Value.int .i64) encSt (q.seats) :: mapF b32 (Value.int .i64) Value.bool (trF (q.fixed)) :: blk b8 [.map (some b32)] 109 :: blk b7 [.pointer (some ⟨b31, 0, none⟩)] 103 :: rowI (.slice aw (wetL t).length cw) 3 1 (wetL t).length ((wetL t).flatMap Bx.encI) :: []) ∧ (Vld t q.taken) ∧ ((plT t now).pick (fuelT t) x ((plT t now).places x) p = q) ∧ True) ?_ ?_
          ·
            refine seqX ?_
            refine regionX rfl ?_
            refine sv (yLdB h7 Tryz.isAgg103 (hS.at _) rfl) ?_
            refine sv (yLdB rfl Tryz.isAgg3 (hS.at _) rfl) ?_
            refine scall Tryz.call50 (.cons rfl (.cons rfl .nil)) c_places ?_
            rintro _ w ⟨i2, i3, rfl, hM⟩; replace hS := hS.call hM; clear hM
            refine nil ?_
            show Code.wpIn _ _ _ _ _ _ _
            refine blockX ?_
            refine rangeM (R := [blk i3 [.int .i64 x] 3, blk i2 [.pointer (some ⟨b31, 0, none⟩)] 103]) (L0 := blk b12 [.int .i64 x] 3 :: packI (marks Ds) :: rowI v 38 3 (outs).length ((outs).flatMap slotC) :: blk b31 [.pointer (some ⟨bb, 0, none⟩), .int .i64 now, .slice aw (wetL t).length cw, .map (some mt), .map (some ms)] 108 :: mapF mt encSt (Value.int .i64) (p.taken) :: mapF ms (Value.int .i64) encSt (p.seats) :: mapF b32 (Value.int .i64) Value.bool (trF (p.fixed)) :: blk b8 [.map (some b32)] 109 :: blk b7 [.pointer (some ⟨b31, 0, none⟩)] 103 :: rowI (.slice aw (wetL t).length cw) 3 1 (wetL t).length ((wetL t).flatMap Bx.encI) :: []) (ps := [60]) rfl Tryz.call103 hS (it_places hB hxi hn) (fun cc pre L => (cc = none ∧ ∃ q mt ms, L = blk b12 [.int .i64 x] 3 :: packI (marks Ds) :: rowI v 38 3 (outs).length ((outs).flatMap slotC) :: blk b31 [.pointer (some ⟨bb, 0, none⟩), .int .i64 now, .slice aw (wetL t).length cw, .map (some mt), .map (some ms)] 108 :: mapF mt encSt (Value.int .i64) (q.taken) :: mapF ms (Value.int .i64) encSt (q.seats) :: mapF b32 (Value.int .i64) Value.bool (trF (q.fixed)) :: blk b8 [.map (some b32)] 109 :: blk b7 [.pointer (some ⟨b31, 0, none⟩)] 103 :: rowI (.slice aw (wetL t).length cw) 3 1 (wetL t).length ((wetL t).flatMap Bx.encI) :: [] ∧ Vld t q.taken ∧ ∀ post, (plT t now).places x = pre ++ post → (plT t now).pick (fuelT t) x ((plT t now).places x) p = (plT t now).pick (fuelT t) x (post) q) ∨ (cc = some (.exit 4) ∧ ∃ q mt ms, L = blk b12 [.int .i64 x] 3 :: packI (marks Ds) :: rowI v 38 3 (outs).length ((outs).flatMap slotC) :: blk b31 [.pointer (some ⟨bb, 0, none⟩), .int .i64 now, .slice aw (wetL t).length cw, .map (some mt), .map (some ms)] 108 :: mapF mt encSt (Value.int .i64) (q.taken) :: mapF ms (Value.int .i64) encSt (q.seats) :: mapF b32 (Value.int .i64) Value.bool (trF (q.fixed)) :: blk b8 [.map (some b32)] 109 :: blk b7 [.pointer (some ⟨b31, 0, none⟩)] 103 :: rowI (.slice aw (wetL t).length cw) 3 1 (wetL t).length ((wetL t).flatMap Bx.encI) :: [] ∧ Vld t q.taken ∧ (plT t now).pick (fuelT t) x ((plT t now).places x) p = q)) (.inl ⟨rfl, p, mt, ms, rfl, hvl, fun post hp => by rw [List.nil_append] at hp; rw [hp]⟩) (fun _ _ => rfl) (fun pre w L M hcb hS => by
              obtain ⟨-, q, mt, ms, rfl, -⟩ := hcb.resolve_right (fun h => by cases h.1)
              replace hS : StX [] w0 w (blk b12 [.int .i64 x] 3 :: packI (marks Ds) :: rowI v 38 3 (outs).length ((outs).flatMap slotC) :: blk b31 [.pointer (some ⟨bb, 0, none⟩), .int .i64 now, .slice aw (wetL t).length cw, .map (some mt), .map (some ms)] 108 :: mapF mt encSt (Value.int .i64) (q.taken) :: mapF ms (Value.int .i64) encSt (q.seats) :: mapF b32 (Value.int .i64) Value.bool (trF (q.fixed)) :: blk b8 [.map (some b32)] 109 :: blk b7 [.pointer (some ⟨b31, 0, none⟩)] 103 :: rowI (.slice aw (wetL t).length cw) 3 1 (wetL t).length ((wetL t).flatMap Bx.encI) :: M) := hS
              exact plRd_of (hS.at b31)) ?_ ?_ ?_
            ·
              clear hS
              intro yl pre y w L M hpre hcb hS
              obtain ⟨-, q, mt, ms, rfl, hvq, hI⟩ := hcb.resolve_right (fun h => by cases h.1)
              obtain ⟨post, hpost⟩ := id hpre
              rw [List.append_assoc] at hpost
              have hyp : y ∈ (plT t now).places x := by rw [← hpost]; simp
              have hcy := plc_chan hok hyp
              replace hI := hI _ hpost.symm
              rw [List.singleton_append] at hI
              replace hS : StX [] w0 w (blk b12 [.int .i64 x] 3 :: packI (marks Ds) :: rowI v 38 3 (outs).length ((outs).flatMap slotC) :: blk b31 [.pointer (some ⟨bb, 0, none⟩), .int .i64 now, .slice aw (wetL t).length cw, .map (some mt), .map (some ms)] 108 :: mapF mt encSt (Value.int .i64) (q.taken) :: mapF ms (Value.int .i64) encSt (q.seats) :: mapF b32 (Value.int .i64) Value.bool (trF (q.fixed)) :: blk b8 [.map (some b32)] 109 :: blk b7 [.pointer (some ⟨b31, 0, none⟩)] 103 :: rowI (.slice aw (wetL t).length cw) 3 1 (wetL t).length ((wetL t).flatMap Bx.encI) :: M) := hS
              refine regionX rfl ?_
              refine salloc hS Tryz.zeroValue115 rfl ?_; clear hS; intro b13 w hS
              refine sst hS rfl rfl Tryz.sizeOf115 rfl rfl rfl rfl ?_; clear hS; intro w hS
              refine nil ?_
              refine ⟨_, blk b13 [.int .i64 y.1, .int .i64 y.2, .int .i64 0] 115 :: blk b12 [.int .i64 x] 3 :: packI (marks Ds) :: rowI v 38 3 (outs).length ((outs).flatMap slotC) :: blk b31 [.pointer (some ⟨bb, 0, none⟩), .int .i64 now, .slice aw (wetL t).length cw, .map (some mt), .map (some ms)] 108 :: mapF mt encSt (Value.int .i64) (q.taken) :: mapF ms (Value.int .i64) encSt (q.seats) :: mapF b32 (Value.int .i64) Value.bool (trF (q.fixed)) :: blk b8 [.map (some b32)] 109 :: blk b7 [.pointer (some ⟨b31, 0, none⟩)] 103 :: rowI (.slice aw (wetL t).length cw) 3 1 (wetL t).length ((wetL t).flatMap Bx.encI) :: [], rfl, hS, ?_⟩
              clear hS M; intro M w hS; replace hS : StX [] w0 w (blk b13 [.int .i64 y.1, .int .i64 y.2, .int .i64 0] 115 :: blk b12 [.int .i64 x] 3 :: packI (marks Ds) :: rowI v 38 3 (outs).length ((outs).flatMap slotC) :: blk b31 [.pointer (some ⟨bb, 0, none⟩), .int .i64 now, .slice aw (wetL t).length cw, .map (some mt), .map (some ms)] 108 :: mapF mt encSt (Value.int .i64) (q.taken) :: mapF ms (Value.int .i64) encSt (q.seats) :: mapF b32 (Value.int .i64) Value.bool (trF (q.fixed)) :: blk b8 [.map (some b32)] 109 :: blk b7 [.pointer (some ⟨b31, 0, none⟩)] 103 :: rowI (.slice aw (wetL t).length cw) 3 1 (wetL t).length ((wetL t).flatMap Bx.encI) :: M) := hS
              refine blockX ?_
              refine seqX ?_
              refine regionX rfl ?_
              refine sv (yLdB h7 Tryz.isAgg103 (hS.at _) rfl) ?_
              refine sv (yLdB rfl Tryz.isAgg3 (hS.at _) rfl) ?_
              refine sv (yLdBA rfl Tryz.isAgg115 Tryz.sizeOf115 (hS.at _) rfl rfl) ?_
              refine sv (yLdB h8 Tryz.isAgg109 (hS.at _) rfl) ?_
              refine scall Tryz.call51 (.cons rfl (.cons rfl (.cons rfl (.cons rfl .nil)))) (c_try (x := y) hB hn (fuel_UU hok now) hvq hxi hcy (StX.fr (A := [blk b13 [.int .i64 y.1, .int .i64 y.2, .int .i64 0] 115, blk b12 [.int .i64 x] 3, packI (marks Ds), rowI v 38 3 (outs).length ((outs).flatMap slotC)]) (B := [blk b31 [.pointer (some ⟨bb, 0, none⟩), .int .i64 now, .slice aw (wetL t).length cw, .map (some mt), .map (some ms)] 108, mapF mt encSt (Value.int .i64) (q.taken), mapF ms (Value.int .i64) encSt (q.seats), mapF b32 (Value.int .i64) Value.bool (trF (q.fixed))]) hS)) ?_
              rintro _ w ⟨rfl, mt2, ms2, hM⟩; clear hS
              replace hS : StX [] w0 w (blk b13 [.int .i64 y.1, .int .i64 y.2, .int .i64 0] 115 :: blk b12 [.int .i64 x] 3 :: packI (marks Ds) :: rowI v 38 3 (outs).length ((outs).flatMap slotC) :: blk b31 [.pointer (some ⟨bb, 0, none⟩), .int .i64 now, .slice aw (wetL t).length cw, .map (some mt2), .map (some ms2)] 108 :: mapF mt2 encSt (Value.int .i64) (((plT t now).try (fuelT t) x q ((plT t now).nums y)).2.taken) :: mapF ms2 (Value.int .i64) encSt (((plT t now).try (fuelT t) x q ((plT t now).nums y)).2.seats) :: mapF b32 (Value.int .i64) Value.bool (trF (((plT t now).try (fuelT t) x q ((plT t now).nums y)).2.fixed)) :: blk b8 [.map (some b32)] 109 :: blk b7 [.pointer (some ⟨b31, 0, none⟩)] 103 :: rowI (.slice aw (wetL t).length cw) 3 1 (wetL t).length ((wetL t).flatMap Bx.encI) :: M) := StX.fr (A := [blk b31 [.pointer (some ⟨bb, 0, none⟩), .int .i64 now, .slice aw (wetL t).length cw, .map (some mt2), .map (some ms2)] 108, mapF mt2 encSt (Value.int .i64) (((plT t now).try (fuelT t) x q ((plT t now).nums y)).2.taken), mapF ms2 (Value.int .i64) encSt (((plT t now).try (fuelT t) x q ((plT t now).nums y)).2.seats), mapF b32 (Value.int .i64) Value.bool (trF (((plT t now).try (fuelT t) x q ((plT t now).nums y)).2.fixed))]) (B := [blk b13 [.int .i64 y.1, .int .i64 y.2, .int .i64 0] 115, blk b12 [.int .i64 x] 3, packI (marks Ds), rowI v 38 3 (outs).length ((outs).flatMap slotC)]) hM
              clear hM
              refine nil ?_
              show Code.wpIn _ _ _ _ _ _ _
              refine condX rfl (fun c65 => ?_) (fun c65 => ?_)
              ·
                have hpk : (plT t now).pick (fuelT t) x ((plT t now).places x) p = ((plT t now).try (fuelT t) x q ((plT t now).nums y)).2 := by rw [hI, Pl.pick, if_pos c65]
                refine exitX ?_
                refine blockOut (by decide) ?_
                exact ⟨_, (.inr ⟨rfl, ((plT t now).try (fuelT t) x q ((plT t now).nums y)).2, mt2, ms2, rfl, vld_try hxi hvq, hpk⟩), (hS.sub (.cons _ (List.Sublist.refl _)))⟩
              ·
                have hpk : (plT t now).pick (fuelT t) x ((plT t now).places x) p = (plT t now).pick (fuelT t) x (post) ((plT t now).try (fuelT t) x q ((plT t now).nums y)).2 := by rw [hI, Pl.pick, if_neg (by rw [c65]; decide)]
                refine skipX ?_
                skip
                exact ⟨_, (.inl ⟨rfl, ((plT t now).try (fuelT t) x q ((plT t now).nums y)).2, mt2, ms2, rfl, vld_try hxi hvq, fun post2 hp2 => by
                  have : post = post2 := List.append_cancel_left (show (pre ++ [y]) ++ post = (pre ++ [y]) ++ post2 from by rw [← hp2, ← hpost, List.append_assoc])
                  rw [← this]; exact hpk⟩), (hS.sub (.cons _ (List.Sublist.refl _)))⟩
            ·
              clear hS
              intro D w L hcb hS
              obtain ⟨-, q, mt, ms, rfl, hvq, hI⟩ := hcb.resolve_right (fun h => by cases h.1)
              have hpq : (plT t now).pick (fuelT t) x ((plT t now).places x) p = q := by rw [hI [] (by rw [List.append_nil])]; rfl
              replace hS : StX [] w0 w (obj D (.deferred (some [])) :: blk b12 [.int .i64 x] 3 :: packI (marks Ds) :: rowI v 38 3 (outs).length ((outs).flatMap slotC) :: blk b31 [.pointer (some ⟨bb, 0, none⟩), .int .i64 now, .slice aw (wetL t).length cw, .map (some mt), .map (some ms)] 108 :: mapF mt encSt (Value.int .i64) (q.taken) :: mapF ms (Value.int .i64) encSt (q.seats) :: mapF b32 (Value.int .i64) Value.bool (trF (q.fixed)) :: blk b8 [.map (some b32)] 109 :: blk b7 [.pointer (some ⟨b31, 0, none⟩)] 103 :: rowI (.slice aw (wetL t).length cw) 3 1 (wetL t).length ((wetL t).flatMap Bx.encI) :: []) := hS
              exact ⟨_, _, rfl, (D :: Ds), q, mt, ms, rfl, h1, h4, h7, h8, rfl, h51, h52, h53, (marks_in hS), (hvq), (hpq), trivial⟩
            ·
              intro D w L cc pre hcb hS
              obtain ⟨hcc, q, mt, ms, rfl, hvq, hpq⟩ := hcb.resolve_left (fun h => by cases h.1)
              obtain rfl := Option.some.inj hcc
              replace hS : StX [] w0 w (obj D (.deferred (some [])) :: blk b12 [.int .i64 x] 3 :: packI (marks Ds) :: rowI v 38 3 (outs).length ((outs).flatMap slotC) :: blk b31 [.pointer (some ⟨bb, 0, none⟩), .int .i64 now, .slice aw (wetL t).length cw, .map (some mt), .map (some ms)] 108 :: mapF mt encSt (Value.int .i64) (q.taken) :: mapF ms (Value.int .i64) encSt (q.seats) :: mapF b32 (Value.int .i64) Value.bool (trF (q.fixed)) :: blk b8 [.map (some b32)] 109 :: blk b7 [.pointer (some ⟨b31, 0, none⟩)] 103 :: rowI (.slice aw (wetL t).length cw) 3 1 (wetL t).length ((wetL t).flatMap Bx.encI) :: []) := hS
              refine exitX ?_
              exact ⟨_, _, rfl, (D :: Ds), q, mt, ms, rfl, h1, h4, h7, h8, rfl, h51, h52, h53, (marks_in hS), (hvq), (hpq), trivial⟩
          ·
            clear hS; rintro f _ w ⟨Ds, q, mt, ms, rfl, h1, h4, h7, h8, h12, h51, h52, h53, hS, hvq, hpq, -⟩
            refine seqX ?_
            refine region_anyX (C := (fun w => StX [] w0 w (blk b12 [.int .i64 x] 3 :: packI (marks Ds) :: rowI v 38 3 (outs).length ((outs).flatMap slotC) :: blk b31 [.pointer (some ⟨bb, 0, none⟩), .int .i64 now, .slice aw (wetL t).length cw, .map (some mt), .map (some ms)] 108 :: mapF mt encSt (Value.int .i64) (q.taken) :: mapF ms (Value.int .i64) encSt (q.seats) :: mapF b32 (Value.int .i64) Value.bool (trF (q.fixed)) :: blk b8 [.map (some b32)] 109 :: blk b7 [.pointer (some ⟨b31, 0, none⟩)] 103 :: rowI (.slice aw (wetL t).length cw) 3 1 (wetL t).length ((wetL t).flatMap Bx.encI) :: []))) mixed 6 7 (by kernel_rfl) rfl hS (fun _ h => h) ?_
            clear hS; intro w hS
            refine hv (fun w hS => (yLdB h7 Tryz.isAgg103 (hS.at _) rfl)) ?_
            refine hv (fun w hS => (yNil rfl)) ?_
            refine hv (fun w hS => (fa108_4 rfl)) ?_
            refine hv (fun w hS => (yLdB rfl Tryz.isAgg106 (hS.at _) rfl)) ?_
            refine hv (fun w hS => (yLdB h12 Tryz.isAgg3 (hS.at _) rfl)) ?_
            refine hv (fun w hS => (yLookF (F := q.seats) (dec := encSt) (k := x) rfl rfl Tryz.runUnderlying106 keyI3 Tryz.zeroValue115 (hS.is _) (seat_val _))) ?_
            refine hnil ?_
            show wpA _ _ _ _ _ _ _ _ _ _
            refine a_step (i := 6) (is := []) (by kernel_rfl) ⟨?_, trivial⟩
            refine ⟨_, rfl, ?_⟩
            refine salloc hS Tryz.zeroValue115 rfl ?_; clear hS; intro b14 w hS
            refine nil ?_
            refine ⟨fun _ => hS.sub (.cons _ (List.Sublist.refl _)), ?_⟩
            show wpA _ _ _ _ _ _ _ _ _ _
            refine a_step (i := 7) (is := []) (by kernel_rfl) ⟨?_, trivial⟩
            refine ⟨_, rfl, ?_⟩
            refine sst hS rfl rfl Tryz.sizeOf115 rfl rfl rfl rfl ?_; clear hS; intro w hS
            refine nil ?_
            refine ⟨fun h => absurd h (by decide), ?_⟩
            show wpA _ _ _ _ _ _ _ _ _ _
            refine a_end (by kernel_rfl) ?_
            show Code.wpIn _ _ _ _ _ _ _
            refine regionX rfl ?_
            refine sv (yMove h4) ?_
            refine sv (yLdB h12 Tryz.isAgg3 (hS.at _) rfl) ?_
            refine sv (fa115_0 rfl) ?_
            refine sv (yLdB rfl Tryz.isAgg3 (hS.at _) rfl) ?_
            refine sv (fa115_1 rfl) ?_
            refine sv (yLdB rfl Tryz.isAgg3 (hS.at _) rfl) ?_
            refine sv (yBuild Tryz.zeroValue38 rfl pl38 (.cons rfl rfl (.cons rfl rfl (.cons rfl rfl .nil))) rfl) ?_
            refine sbslice hS Tryz.underlying27 Tryz.sizeOf38 rfl Tryz.zeroValue38 rfl (.cons rfl rfl .nil) rfl ?_; clear hS; intro b79 w hS
            refine sapp (bytes := 24) (size := 3) (v := v) (m := 1) hS rfl rfl Tryz.underlying27 ti38 rfl rfl rfl rfl (by decide) (blk_cells (hS.at _)) rfl rfl (by omega) (by omega) ?_; clear hS; intro v80 w hS
            refine sv (yAsg rfl) ?_
            refine nil ?_
            show Code.wpIn _ _ _ _ _ _ _
            refine regionX rfl ?_
            refine sv (yAdd h53 rfl ⟨by omega, by omega⟩) ?_
            refine sv (yMove rfl) ?_
            refine nil ?_
            exact ⟨_, _, _, rfl, ⟨Ds, k + 1, q, mt, ms, _, outs ++ [slotOf q x], rfl, h1, rfl, h7, h8, h51, h52, rfl, (by rw [List.flatMap_append, List.length_append]; exact hS.sub (.cons _ (.cons _ (.cons _ (List.Sublist.refl _))))), (by omega), (hvq), (by simp; omega), (by rw [hI2, hd, Pl.fixAll, hpq]; simp), rfl⟩, by omega⟩
        ·
          simp only [BS, ne_eq] at c54
          obtain rfl : k = (wetL t).length := by omega
          rw [List.drop_length, Pl.fixAll, List.append_nil] at hI2
          refine exitX ?_
          show Code.wpIn _ _ _ _ _ _ _
          refine seqX ?_
          refine regionX rfl ?_
          refine sv (yMove h4) ?_
          refine sv (yAsg rfl) ?_
          refine sv (yAsg rfl) ?_
          refine nil ?_
          show Code.wpIn _ _ _ _ _ _ _
          refine wpIn_ret ?_
          refine leafM hS (fun w hS => (res2 rfl rfl rfl)) (fun w hS => ?_)
          have hs2 : (planR t now).2 = 0 := by rw [hf]
          rw [hs2, hI2]
          exact ⟨v, rfl, StX.base hE0 (hS.sub (.cons_cons _ (List.nil_sublist _)))⟩
end Go.Proofs.YtmoilbakmlekbaaGreatDoor

/- part LibO -/
namespace Bx
open Go Go.RowKit
theorem yEqNil {P : Program} {ρ : Operand → Value} {w : World} {ty : TypeId} {x y : Operand} {a : Option Addr} {n c : Nat} {t t' e : TypeId} (hx : ρ x = .slice a n c) (hy : ρ y = .slice none 0 0) (ht : P.underlying t = some (.slice e)) : Y P ρ (.binOp .eql t x y t') ty w (.bool a.isNone) w := by
  have h : ∀ d : Nat, (Op.equalIn (d + 1) t (.slice a n c) (.slice none 0 0)).run P w = .ok a.isNone w := fun d => by
    cases a <;> simp [Op.equalIn, run_underlying ht]
  have h2 : (binOp .eql t (.slice a n c) (.slice none 0 0)).run P w = .ok (.bool a.isNone) w := by
    simp only [binOp]
    simp [Op.equal, Op.maxDepth, h 9999]
  simp [Y, xop, execOp, hx, hy, eqGuard, h2]
section
variable {P : Program} {ops : Array Oper} {S : List Nat} {w0 : World} {L : List Item} {K : Act → Prop} {n : Nat} {rest : List Oper} {f : Fr} {d : Nat} {ty : TypeId} {pos : String} {af : Array Edge}
theorem qgcf {j : Nat} {want : Bool} {dj : Nat} {B : Bool} {fx : Operand} {g : FuncId} {xs : List Operand} {ts : Array TypeId} {vs cl : List Value} {v : Value} (hd : dstOf ops j = some dj) (hn : Nat.blt dj n = true) (hb : f dj = .bool B)
    (hf : B = want → ev n f fx = .func (.func g) #[] cl.toArray) (hc : ∀ ars w, (callFunc g ars).run P w = .ok (.enter g ars) w) (ha : B = want → Evs (ev n f) xs vs) (hC : B = want → ∀ w, StX S w0 w L → CV P g (vs ++ cl).toArray w v)
    (h : ∀ v', Cnd (B = want) v' v → wpQ P ops S w0 L K n rest (upd f d v')) : wpQ P ops S w0 L K n (⟨some d, .call ⟨.value fx, xs.toArray, ts⟩, ty, pos, af, some (j, want)⟩ :: rest) f :=
  wpQ_guard hd hn (by rw [hb]; simp) (fun g' w hw => .inr ⟨g, _, by
    have hr := enter_run (P := P) (ρ := ev n f) (w := w) (ty := ty) (ts := ts) (hf g') (ha g') hc
    rw [List.append_toArray] at hr
    exact hr, hC g' w hw⟩) h
end
def cmpI (a b : Int) : Int := if a < b then -1 else if b < a then 1 else 0
theorem cmpI_neg {a b : Int} : cmpI a b < 0 ↔ a < b := by
  unfold cmpI
  split
  · simp [*]
  · split <;> simp_all
end Bx

/- part A14 -/
namespace Bx
open Go Go.RowKit
structure Msg where
  number : Int
  town : Int
  stage : Int
  channel : Int
  sent : Int
deriving DecidableEq
def msgC (m : Msg) : List Value := [.int .i64 m.number, .int .i64 m.town, .int .i64 m.stage, .int .i64 m.channel, .int .i64 m.sent]
theorem msgC_len (m : Msg) : (msgC m).length = 5 := rfl
def RMsg (_ : World) (cs : List Value) (m : Msg) : Prop := cs = msgC m ∧ I64 m.number ∧ I64 m.town ∧ I64 m.stage ∧ I64 m.channel ∧ I64 m.sent
theorem RMsg.stays : Stays RMsg := fun _ _ _ _ _ h => h
def badM (t : Task) (x : Msg) (i before : Int) : Bool := (((decide (x.number ≠ i + 1) || outB x.town 0 (t.towns.length - 1)) || outB x.stage 0 2) || outB x.channel 0 (t.chans.length - 1)) || outB x.sent before 200000
def wrongL (t : Task) : List Msg → Int → Int → Int
  | [], _, _ => 0
  | x :: l, i, before => if badM t x i before = true then 6 else wrongL t l (i + 1) x.sent
def wrongF (t : Task) (log : List Msg) : Int := if (200 : Int) < log.length then 3 else wrongL t log 0 0
structure MsgOk (t : Task) (x : Msg) : Prop where
  town : 0 ≤ x.town ∧ x.town < t.towns.length
  stage : 0 ≤ x.stage ∧ x.stage ≤ 2
  chan : 0 ≤ x.channel ∧ x.channel < t.chans.length
  sent : 0 ≤ x.sent ∧ x.sent ≤ 200000
theorem wrongL_ok {t : Task} : ∀ (l : List Msg) (i before : Int), 0 ≤ before → wrongL t l i before = 0 → (∀ x ∈ l, MsgOk t x) ∧ (∀ (k : Nat) x, l[k]? = some x → x.number = i + 1 + k) ∧ (l.map (·.sent)).Pairwise (· ≤ ·) ∧ ∀ x ∈ l, before ≤ x.sent
  | [], _, _, _, _ => ⟨fun _ h => (nomatch h), fun k x h => by simp at h, by simp, fun _ h => (nomatch h)⟩
  | x :: l, i, before, hb, h => by
    rw [wrongL] at h
    split at h
    next => cases h
    next h1 =>
      simp only [badM, Bool.not_eq_true, Bool.or_eq_false_iff, decide_eq_false_iff_not, Decidable.not_not, outB_false] at h1
      obtain ⟨⟨⟨⟨h1, h2⟩, h3⟩, h4⟩, h5⟩ := h1
      obtain ⟨k1, k2, k3, k4⟩ := wrongL_ok l _ _ (by omega) h
      refine ⟨fun y hy => ?_, fun k y hy => ?_, ?_, fun y hy => ?_⟩
      · rcases List.mem_cons.1 hy with rfl | hy
        · exact ⟨by omega, h3, by omega, by omega⟩
        · exact k1 y hy
      · cases k with
        | zero => simp at hy; subst hy; simp; omega
        | succ k => simp at hy; have := k2 k y hy; push_cast; omega
      · rw [List.map_cons, List.pairwise_cons]
        refine ⟨fun a ha => ?_, k3⟩
        obtain ⟨y, hy, rfl⟩ := List.mem_map.1 ha
        exact k4 y hy
      · rcases List.mem_cons.1 hy with rfl | hy
        · exact h5.1
        · exact Int.le_trans h5.1 (k4 y hy)
theorem wrongF_ok {t : Task} {log : List Msg} (h : wrongF t log = 0) : log.length ≤ 200 ∧ (∀ x ∈ log, MsgOk t x) ∧ (∀ (k : Nat) x, log[k]? = some x → x.number = 1 + k) ∧ (log.map (·.sent)).Pairwise (· ≤ ·) := by
  unfold wrongF at h
  split at h
  next => cases h
  next h1 =>
    obtain ⟨k1, k2, k3, -⟩ := wrongL_ok log 0 0 (Int.le_refl _) h
    exact ⟨by omega, k1, fun k x hx => by have := k2 k x hx; omega, k3⟩
def lastF (log : List Msg) (i : Int) : Int := log.foldl (fun o x => if x.town = i then x.stage else o) 0
def usedF (log : List Msg) (now c : Int) : Int := log.foldl (fun o x => if x.channel = c ∧ x.sent = now then o + 1 else o) 0
theorem lastF_snoc (log : List Msg) (x : Msg) (i : Int) : lastF (log ++ [x]) i = if x.town = i then x.stage else lastF log i := by unfold lastF; rw [List.foldl_append]; rfl
theorem usedF_snoc (log : List Msg) (now : Int) (x : Msg) (c : Int) : usedF (log ++ [x]) now c = if x.channel = c ∧ x.sent = now then usedF log now c + 1 else usedF log now c := by unfold usedF; rw [List.foldl_append]; rfl
theorem usedF_bd (now c : Int) (log : List Msg) : 0 ≤ usedF log now c ∧ usedF log now c ≤ log.length := by
  induction log using snocR with
  | h0 => exact ⟨Int.le_refl _, Int.le_refl _⟩
  | h1 l x ih =>
    rw [usedF_snoc]
    simp only [List.length_append, List.length_singleton]
    split <;> (push_cast; omega)
def roomF (t : Task) (all : List Msg) (now c : Int) : Int := (chn t c).room - usedF all now c
def canL (t : Task) (all : List Msg) (now i : Int) : List Int := (twn t i).chans.filter fun c => !decide (roomF t all now c ≤ 0)
def byF (t : Task) (all : List Msg) (now i : Int) : Option Int := (sortV (fun c => (chn t c).delay) (canL t all now i)).head?
def msgF (t : Task) (all : List Msg) (now i c : Int) : Msg := ⟨all.length + 1, i, stageF t i now, c, now⟩
def nextStep (t : Task) (now : Int) (all : List Msg) (i : Int) : List Msg := match byF t all now i with | none => all | some c => all ++ [msgF t all now i c]
def upL (t : Task) (log : List Msg) (now : Int) : List Int := (idxL t).filter fun i => decide (lastF log i < stageF t i now)
def downL (t : Task) (log : List Msg) (now : Int) : List Int := (idxL t).filter fun i => decide (stageF t i now < lastF log i)
def ordL (t : Task) (log : List Msg) (now : Int) : List Int := sortV (fun i => (arr t i).1.lo) (upL t log now) ++ downL t log now
def lateB (log : List Msg) (now : Int) : Bool := decide (0 < log.length) && decide (now < ((log.getLast?).map (·.sent)).getD 0)
def nextE (t : Task) (log : List Msg) (now : Int) : Int := if (checkA t).2.2 ≠ 0 then (checkA t).2.2 else if wrongF t log ≠ 0 then wrongF t log else if (outB now 0 200000 || lateB log now) = true then 7 else 0
/-- All messages, those of now behind. -/
def allF (t : Task) (log : List Msg) (now : Int) : List Msg := (ordL t log now).foldl (nextStep t now) log
def nextF (t : Task) (log : List Msg) (now : Int) : List Msg := (allF t log now).drop log.length
def nextR (t : Task) (log : List Msg) (now : Int) : List Msg × Int := if nextE t log now ≠ 0 then ([], nextE t log now) else (nextF t log now, 0)
theorem ins_start (f : Int → Int) (l : List Int) : (sortR f (l.take 1)).reverse ++ l.drop 1 = l := by
  cases l with
  | nil => rfl
  | cons x l => rfl
theorem ins_end {f : Int → Int} {l : List Int} {i : Nat} (h : l.length ≤ i) : (sortR f (l.take i)).reverse ++ l.drop i = sortV f l := by
  rw [List.take_of_length_le h, List.drop_of_length_le h, List.append_nil]; rfl
theorem last_ex (ks : List Int) : ∃ y, 0 < ks.length → ks[ks.length - 1]? = some y := by
  by_cases h : 0 < ks.length
  · exact ⟨ks[ks.length - 1], fun _ => List.getElem?_eq_getElem (by omega)⟩
  · exact ⟨0, fun h' => absurd h' h⟩
theorem inn_mid (ks js r : List Int) (x : Int) : (ks ++ [x] ++ js ++ r)[ks.length]? = some x := by
  rw [List.append_assoc, List.append_assoc, List.getElem?_append_right (Nat.le_refl _)]; simp
theorem inn_prev {ks js r : List Int} {x y : Int} (h : 0 < ks.length) (hy : ks[ks.length - 1]? = some y) : (ks ++ [x] ++ js ++ r)[((ks.length : Int) - 1).toNat]? = some y := by
  rw [show ((ks.length : Int) - 1).toNat = ks.length - 1 by omega, List.append_assoc, List.append_assoc, List.getElem?_append_left (by omega)]; exact hy
theorem last_split {ks : List Int} {y : Int} (h : 0 < ks.length) (hy : ks[ks.length - 1]? = some y) : ∃ k2, ks = k2 ++ [y] := by
  refine ⟨ks.take (ks.length - 1), ?_⟩
  rw [← take_snoc hy, show ks.length - 1 + 1 = ks.length by omega, List.take_length]
theorem swap_set (ks js r : List Int) (x y : Int) : ((ks ++ [y] ++ [x] ++ js ++ r).set (ks.length + 1) y).set ks.length x = ks ++ [x] ++ (y :: js) ++ r := by
  apply List.ext_getElem?
  intro i
  rw [List.getElem?_set, List.getElem?_set]
  simp only [List.length_set, List.length_append, List.length_cons, List.length_nil, List.append_assoc, List.singleton_append, List.cons_append, List.nil_append]
  rcases Nat.lt_trichotomy i ks.length with h | h | h
  · rw [if_neg (by omega), if_neg (by omega), List.getElem?_append_left h, List.getElem?_append_left h]
  · subst h
    rw [if_pos rfl, if_pos (by omega), List.getElem?_append_right (Nat.le_refl _)]; simp
  · by_cases h1 : ks.length + 1 = i
    · subst h1
      rw [if_neg (by omega), if_pos rfl, if_pos (by omega), List.getElem?_append_right (by omega), show ks.length + 1 - ks.length = 1 by omega]; rfl
    · rw [if_neg (by omega), if_neg h1, List.getElem?_append_right (by omega), List.getElem?_append_right (by omega)]
      obtain ⟨k, rfl⟩ : ∃ k, i = ks.length + 2 + k := ⟨i - ks.length - 2, by omega⟩
      rw [show ks.length + 2 + k - ks.length = k + 1 + 1 by omega]; rfl
theorem ins_none {f : Int → Int} {x y : Int} {ks : List Int} (hy : 0 < ks.length → ks[ks.length - 1]? = some y) (h : ¬ 0 < ks.length ∨ ¬ cmpI (f x) (f y) < 0) : insV f x ks.reverse = x :: ks.reverse := by
  by_cases h0 : 0 < ks.length
  · obtain ⟨k2, rfl⟩ := last_split h0 (hy h0)
    exact ins_stop (fun hlt => (h.resolve_left (fun hn => hn h0)) (cmpI_neg.2 hlt))
  · obtain rfl : ks = [] := List.eq_nil_of_length_eq_zero (by omega)
    rfl
theorem ExtX.trans2 {S : List Nat} {a b c : World} (h : ExtX S a b) (k : ExtX S b c) : ExtX S a c :=
  ⟨k.os.trans h.os, k.tape.trans h.tape, k.output.trans h.output, Nat.le_trans h.size k.size, fun j hj hn => (k.block j (Nat.lt_of_lt_of_le hj h.size) hn).trans (h.block j hj hn)⟩
theorem rows_ints {w : World} : ∀ {css : List (List Value)} {l : List Int}, Bx.Rows w 1 RInt css l → css.flatten = l.flatMap encI
  | [], [], _ => rfl
  | c :: css, x :: l, ⟨_, h, hr⟩ => by
    obtain ⟨rfl, -⟩ := h
    rw [List.flatten_cons, List.flatMap_cons, rows_ints hr]; rfl
  | [], _ :: _, h => h.elim
  | _ :: _, [], h => h.elim
theorem ints_news {w : World} {a : Option Addr} {cap : Nat} {l : List Int} (h : Sl w 1 RInt (.slice a l.length cap) l) : 0 < l.length → ∃ b o, a = some ⟨b, o, none⟩ ∧ Cells w b o (l.flatMap encI) := by
  obtain ⟨css, hr, hc⟩ := sl_news h
  rw [← rows_ints hr]; exact hc
theorem sl_nil_of {α : Type} {w : World} {k : Nat} {R : World → List Value → α → Prop} {n c : Nat} {l : List α} (h : Sl w k R (.slice none n c) l) : l = [] := by
  obtain ⟨a', c', he, -, -, hel⟩ := h
  cases l with
  | nil => rfl
  | cons x l =>
    obtain ⟨b, o, cs, ha, -⟩ := hel 0 (by simp)
    cases he
    cases ha
theorem ints_one (l : List Int) : (l.flatMap encI).all (·.oneCell') = true := by
  induction l with
  | nil => rfl
  | cons x l ih => rw [List.flatMap_cons, List.all_append, ih]; rfl
theorem notOwn {S : List Nat} {w0 w : World} {b : Nat} {p : Obj → Prop} {v : Value} {E : TypeId} {k n : Nat} {xs : List Value} {L : List Item} (h : StX S w0 w (cellI b p :: rowI v E k n xs :: L)) : b ∉ v.ownBlock.toList := fun hb => by
  have := (h.sub (List.Sublist.cons_cons _ (List.Sublist.cons_cons _ (List.nil_sublist L)))).apart2 (b := b) (by simp [cellI])
  exact this hb
end Bx

/- part Aw13 -/
namespace Go.Proofs.YtmoilbakmlekbaaGreatDoor
open Go Bx
/-- cmp.isNaN int  -/
theorem c_isNaN {a : Int} {w0 : World} : CV Tryz.prog 139 #[.int .i64 a] w0 (.bool false) := by
  refine enter Tryz.func139 rfl Tryz.ntmps139 rfl ?_
  have hS := St.start w0
  refine seq ?_
  refine region ?_
  refine sv (yAsg rfl) ?_
  refine nil ?_
  show Code.wp _ _ _ _ _
  refine seq ?_
  refine region ?_
  refine sv (yMove rfl) ?_
  refine sv (yMove rfl) ?_
  refine sv (yNeq rfl rfl) ?_
  refine sv (yAsg rfl) ?_
  refine nil ?_
  show Code.wp _ _ _ _ _
  refine wp_ret ?_
  exact retV (res1 rfl (eqB (by simp))) hS.ext
/-- cmp.Compare int  -/
theorem c_cmp {a b : Int} {w0 : World} : CV Tryz.prog 119 #[.int .i64 a, .int .i64 b] w0 (.int .i64 (cmpI a b)) := by
  refine enter Tryz.func119 rfl Tryz.ntmps119 rfl ?_
  have hS := St.start w0
  refine seq ?_
  refine region ?_
  refine sv (yAsg rfl) ?_
  refine nil ?_
  show Code.wp _ _ _ _ _
  refine seq ?_
  refine region ?_
  refine sv (yMove rfl) ?_
  refine scall Tryz.call139 (.cons rfl .nil) c_isNaN ?_
  rintro _ w ⟨rfl, hE⟩; replace hS := hS.step hE; clear hE
  refine sv (yAsg rfl) ?_
  refine nil ?_
  show Code.wp _ _ _ _ _
  refine seq ?_
  refine region ?_
  refine sv (yMove rfl) ?_
  refine scall Tryz.call139 (.cons rfl .nil) c_isNaN ?_
  rintro _ w ⟨rfl, hE⟩; replace hS := hS.step hE; clear hE
  refine sv (yAsg rfl) ?_
  refine nil ?_
  show Code.wp _ _ _ _ _
  refine seq ?_
  refine seq ?_
  refine region ?_
  refine sv (yMove rfl) ?_
  refine nil ?_
  show Code.wp _ _ _ _ _
  refine cond rfl (fun c11 => ?_) (fun c11 => ?_)
  ·
    exact absurd c11 (by decide)
  ·
    refine skip ?_
    show Code.wp _ _ _ _ _
    refine seq ?_
    refine seq ?_
    refine region ?_
    refine sv (yMove rfl) ?_
    refine nil ?_
    show Code.wp _ _ _ _ _
    refine cond rfl (fun c13 => ?_) (fun c13 => ?_)
    ·
      exact absurd c13 (by decide)
    ·
      refine skip ?_
      show Code.wp _ _ _ _ _
      refine seq ?_
      refine seq ?_
      refine region ?_
      refine sv (yMove rfl) ?_
      refine sv (yMove rfl) ?_
      refine sv (yLss rfl rfl) ?_
      refine nil ?_
      show Code.wp _ _ _ _ _
      refine cond rfl (fun c16 => ?_) (fun c16 => ?_)
      ·
        simp only [BS, ne_eq] at c16
        refine seq ?_
        refine region ?_
        refine sv (yAsg rfl) ?_
        refine nil ?_
        show Code.wp _ _ _ _ _
        refine wp_ret (thenR ?_)
        exact retV (res1 rfl (eqI (by unfold cmpI; rw [if_pos c16]))) hS.ext
      ·
        simp only [BS, ne_eq] at c16
        refine skip ?_
        show Code.wp _ _ _ _ _
        refine seq ?_
        refine seq ?_
        refine region ?_
        refine sv (yMove rfl) ?_
        refine sv (yMove rfl) ?_
        refine sv (yGtr rfl rfl) ?_
        refine nil ?_
        show Code.wp _ _ _ _ _
        refine cond rfl (fun c19 => ?_) (fun c19 => ?_)
        ·
          simp only [BS, ne_eq] at c19
          refine seq ?_
          refine region ?_
          refine sv (yAsg rfl) ?_
          refine nil ?_
          show Code.wp _ _ _ _ _
          refine wp_ret (thenR ?_)
          exact retV (res1 rfl (eqI (by unfold cmpI; rw [if_neg c16, if_pos c19]))) hS.ext
        ·
          simp only [BS, ne_eq] at c19
          refine skip ?_
          show Code.wp _ _ _ _ _
          refine seq ?_
          refine region ?_
          refine sv (yAsg rfl) ?_
          refine nil ?_
          show Code.wp _ _ _ _ _
          refine wp_ret ?_
          exact retV (res1 rfl (eqI (by unfold cmpI; rw [if_neg c16, if_neg c19]))) hS.ext
set_option maxHeartbeats 2000000 in
/-- slices.insertionSortCmpFunc int  -/
theorem c_insSort {l : List Int} {fk : Int → Int} {a : Option Addr} {cap g : Nat} {cl : List Value} {w0 : World} (hr : w0.ownsRow 0 3 1 (.slice a l.length cap) l.length (l.flatMap Bx.encI)) (hcall : ∀ ys w, (callFunc g ys).run Tryz.prog w = .ok (.enter g ys) w) (hp : ∀ x y w, x ∈ l → y ∈ l → ExtX (Value.slice a l.length cap).ownBlock.toList w0 w → CV Tryz.prog g (.int .i64 x :: .int .i64 y :: cl).toArray w (.int .i64 (cmpI (fk x) (fk y)))) (hlen : l.length ≤ 20) : CE Tryz.prog 156 #[.slice a l.length cap, .int .i64 0, .int .i64 (l.length : Int), .func (.func g) #[] cl.toArray] w0 (fun u w' => u = .tuple #[] ∧ StX (Value.slice a l.length cap).ownBlock.toList w0 w' [rowI (.slice a l.length cap) 3 1 l.length ((sortV fk l).flatMap Bx.encI)]) := by
  refine enter Tryz.func156 rfl Tryz.ntmps156 rfl ?_
  have hS := StX.startR hr
  refine seq ?_
  refine region ?_
  refine sv (yMove rfl) ?_
  refine sv (yAdd rfl rfl ⟨by omega, by omega⟩) ?_
  refine sv (yAsg rfl) ?_
  refine nil ?_
  show Code.wp _ _ _ _ _
  refine block ?_
  refine loop (fun f w zz => ∃ (i : Nat), f 0 = .slice a l.length cap ∧ f 1 = .int .i64 0 ∧ f 2 = .int .i64 (l.length : Int) ∧ f 3 = .func (.func g) #[] cl.toArray ∧ f 8 = .int .i64 (i : Int) ∧ StX (Value.slice a l.length cap).ownBlock.toList w0 w ([rowI (.slice a l.length cap) 3 1 l.length (((sortR fk (l.take i)).reverse ++ l.drop i).flatMap Bx.encI)]) ∧ (1 ≤ i ∧ i ≤ l.length + 1) ∧ zz = l.length + 1 - i) _ ⟨_, rfl, 1, rfl, rfl, rfl, rfl, rfl, (by rw [ins_start]; exact hS), (⟨Nat.le_refl _, by omega⟩), rfl⟩ ?_
  clear hS
  rintro f w _ ⟨i, h0, h1, h2, h3, h8, hS, hi, rfl⟩
  refine seq ?_
  refine seq ?_
  refine region ?_
  refine sv (yMove h8) ?_
  refine sv (yMove h2) ?_
  refine sv (yLss rfl rfl) ?_
  refine nil ?_
  show Code.wp _ _ _ _ _
  refine cond rfl (fun c14 => ?_) (fun c14 => ?_)
  ·
    simp only [BS, ne_eq] at c14
    obtain ⟨x, hx, hd⟩ := drop_of (l := l) (k := i) (by omega)
    obtain ⟨gb, rfl, -⟩ := row_get (hS.row (.slice a l.length cap)) (by omega)
    have hxm := List.mem_of_getElem? hx
    refine skip ?_
    show Code.wp _ _ _ _ _
    refine seq ?_
    refine block ?_
    refine seq ?_
    refine region ?_
    refine sv (yMove h8) ?_
    refine sv (yAsg rfl) ?_
    refine nil ?_
    show Code.wp _ _ _ _ _
    refine block ?_
    have hsl : (sortR fk (l.take i)).length = i := by rw [(sortR_perm fk _).length_eq]; simp; omega
    refine loop (fun f w zz => ∃ (ks js : List Int), f 0 = .slice (some ⟨gb, 0, none⟩) l.length cap ∧ f 1 = .int .i64 0 ∧ f 2 = .int .i64 (l.length : Int) ∧ f 3 = .func (.func g) #[] cl.toArray ∧ f 8 = .int .i64 (i : Int) ∧ f 9 = .int .i64 (ks.length : Int) ∧ StX (Value.slice (some ⟨gb, 0, none⟩) l.length cap).ownBlock.toList w0 w ([rowI (.slice (some ⟨gb, 0, none⟩) l.length cap) 3 1 l.length ((ks ++ [x] ++ js ++ l.drop (i + 1)).flatMap Bx.encI)]) ∧ (ks.length + js.length = i) ∧ ((insV fk x (sortR fk (l.take i))).reverse = (insV fk x ks.reverse).reverse ++ js) ∧ (∀ y ∈ ks, y ∈ l) ∧ zz = ks.length) _ ⟨_, rfl, (sortR fk (l.take i)).reverse, [], h0, h1, h2, h3, h8, (by rw [List.length_reverse, hsl]; exact rfl), (by rw [List.append_nil, List.append_assoc, List.singleton_append, ← hd]; exact hS), (by simp [hsl]), (by rw [List.reverse_reverse, List.append_nil]), (fun y hy => List.mem_of_mem_take ((sortR_perm fk _).mem_iff.1 (List.mem_reverse.1 hy))), rfl⟩ ?_
    clear hS
    rintro f w _ ⟨ks, js, h0, h1, h2, h3, h8, h9, hS, hl, hI, hks, rfl⟩
    obtain ⟨y, hy⟩ := last_ex ks
    have hyI : 0 < ks.length → (ks ++ [x] ++ js ++ l.drop (i + 1))[((ks.length : Int) - 1).toNat]? = some y := fun h => inn_prev h (hy h)
    have hxI : (ks ++ [x] ++ js ++ l.drop (i + 1))[ks.length]? = some x := inn_mid _ _ _ _
    refine seq ?_
    refine seq ?_
    refine region_draw mixed (by kernel_rfl) hS ?_
    refine qv (fun w hS => (yMove h9)) ?_
    refine qv (fun w hS => (yMove h1)) ?_
    refine qv (fun w hS => (yGtr rfl rfl)) ?_
    refine qv (fun w hS => (yMove rfl)) ?_
    refine qg rfl rfl rfl (fun g w hS => (yMove h3)) (fun v22 g22 => ?_)
    refine qg rfl rfl rfl (fun g w hS => (yMove h0)) (fun v23 g23 => ?_)
    refine qg rfl rfl rfl (fun g w hS => (yMove h9)) (fun v24 g24 => ?_)
    refine qg rfl rfl rfl (fun g w hS => (yIx0 (m := ks.length) (g23.1 g) (g24.1 g) Tryz.runUnderlying34 Tryz.sizeOf3 (by omega))) (fun v25 g25 => ?_)
    refine qg rfl rfl rfl (fun g w hS => (yLd (g25.1 g) Tryz.isAgg3 ((flat_cells0 (enc := Bx.encI) encI_len (row_at (hS.row (.slice (some ⟨gb, 0, none⟩) l.length cap)) rfl (by omega)) hxI).one))) (fun v26 g26 => ?_)
    refine qg rfl rfl rfl (fun g w hS => (yMove h0)) (fun v27 g27 => ?_)
    refine qg rfl rfl rfl (fun g w hS => (yMove h9)) (fun v28 g28 => ?_)
    refine qg rfl rfl rfl (fun g w hS => (ySub (g28.1 g) rfl ⟨by omega, by omega⟩)) (fun v29 g29 => ?_)
    refine qg rfl rfl rfl (fun g w hS => (yIxa (g27.1 g) rfl (g29.1 g) Tryz.runUnderlying34 Tryz.sizeOf3 (by have := of_decide_eq_true g; omega) (by have := of_decide_eq_true g; omega))) (fun v30 g30 => ?_)
    refine qg rfl rfl rfl (fun g w hS => (yLd (g30.1 g) Tryz.isAgg3 ((flat_cells (enc := Bx.encI) encI_len (row_at (hS.row (.slice (some ⟨gb, 0, none⟩) l.length cap)) rfl (by omega)) (hyI (by have := of_decide_eq_true g; omega))).one))) (fun v31 g31 => ?_)
    refine qgcf rfl rfl rfl (fun g => (g22.1 g)) hcall (fun g => (.cons (g26.1 g) (.cons (g31.1 g) .nil))) (fun g w hS => (hp x y _ hxm (hks y (List.mem_of_getElem? (hy (by have := of_decide_eq_true g; omega)))) hS.extx)) (fun v32 g32 => ?_)
    refine qg rfl rfl rfl (fun g w hS => (yLss (g32.1 g) rfl)) (fun v33 g33 => ?_)
    refine qv (fun w hS => (yAnd rfl (fun hB => (g33.1 hB)) rfl)) ?_
    clear hS; refine qnil (fun w hS => ?_)
    show Code.wp _ _ _ _ _
    refine cond rfl (fun c34 => ?_) (fun c34 => ?_)
    ·
      simp only [BS, ne_eq] at c34
      obtain ⟨k2, rfl⟩ := last_split (by omega) (hy (by omega))
      refine skip ?_
      show Code.wp _ _ _ _ _
      refine seq ?_
      refine block ?_
      refine region_two mixed [0, 0, 0, 0, 0, 0, 0, 0, 0, 1, 0, 0, 0, 1] 14 14 (fun w => StX (Value.slice (some ⟨gb, 0, none⟩) l.length cap).ownBlock.toList w0 w [rowI (.slice (some ⟨gb, 0, none⟩) l.length cap) 3 1 l.length (((k2 ++ [y]) ++ [x] ++ js ++ l.drop (i + 1)).flatMap Bx.encI)]) (fun _ => True) (by kernel_rfl) (fun c a a' w h => by obtain ⟨_, v, hv, _⟩ := h; cases hv) hS (fun _ h => h) (fun _ _ => trivial) ?_
      clear hS; intro w hS
      refine hv0 (fun w => (yMove h0)) ?_
      refine hv0 (fun w => (yMove h9)) ?_
      refine hv0 (fun w => (yMove h0)) ?_
      refine hv0 (fun w => (yMove h9)) ?_
      refine hv0 (fun w => (ySub rfl rfl ⟨by omega, by omega⟩)) ?_
      refine hv0 (fun w => (yMove h0)) ?_
      refine hv0 (fun w => (yMove h9)) ?_
      refine hv0 (fun w => (ySub rfl rfl ⟨by omega, by omega⟩)) ?_
      refine hv0 (fun w => (yIxa rfl rfl rfl Tryz.runUnderlying34 Tryz.sizeOf3 (by omega) (by omega))) ?_
      refine hv1 (fun w hS => (yLd rfl Tryz.isAgg3 ((flat_cells (enc := Bx.encI) encI_len (row_at (hS.row (.slice (some ⟨gb, 0, none⟩) l.length cap)) rfl (by omega)) (hyI (by simp))).one))) ?_
      refine hv0 (fun w => (yMove h0)) ?_
      refine hv0 (fun w => (yMove h9)) ?_
      refine hv0 (fun w => (yIx0 (m := (k2 ++ [y]).length) rfl rfl Tryz.runUnderlying34 Tryz.sizeOf3 (by omega))) ?_
      refine hv1 (fun w hS => (yLd rfl Tryz.isAgg3 ((flat_cells0 (enc := Bx.encI) encI_len (row_at (hS.row (.slice (some ⟨gb, 0, none⟩) l.length cap)) rfl (by omega)) hxI).one))) ?_
      refine hgnil ?_
      show wpR _ _ _ _ _ _ _ _ _ _ _ _
      refine r_step (i := 14) (is := []) (by kernel_rfl) ⟨?_, trivial⟩
      refine ⟨_, rfl, ?_⟩
      refine sv (yIx0 (m := (k2 ++ [y]).length) rfl rfl Tryz.runUnderlying34 Tryz.sizeOf3 (by omega)) ?_
      refine nil ?_
      refine ⟨⟨fun _ h => h, fun _ h => h⟩, ?_⟩
      show wpR _ _ _ _ _ _ _ _ _ _ _ _
      refine r_step (i := 15) (is := []) (by kernel_rfl) ⟨?_, trivial⟩
      refine ⟨_, rfl, ?_⟩
      refine srst (m := l.length) (cap := cap) (sz := 1) hS rfl rfl Tryz.sizeOf3 rfl rfl (by omega) rfl ?_; clear hS; intro w hS
      refine nil ?_
      refine ⟨⟨fun h => absurd h (by decide), fun h => absurd h (by decide)⟩, ?_⟩
      show wpR _ _ _ _ _ _ _ _ _ _ _ _
      refine r_step (i := 16) (is := []) (by kernel_rfl) ⟨?_, trivial⟩
      refine ⟨_, rfl, ?_⟩
      refine sv (yIx0 (m := k2.length) rfl (rfl.trans (congrArg (Value.int .i64) (by simp))) Tryz.runUnderlying34 Tryz.sizeOf3 (by simp at hl; omega)) ?_
      refine nil ?_
      refine ⟨⟨fun _ h => h, fun _ h => h⟩, ?_⟩
      show wpR _ _ _ _ _ _ _ _ _ _ _ _
      refine r_step (i := 17) (is := []) (by kernel_rfl) ⟨?_, trivial⟩
      refine ⟨_, rfl, ?_⟩
      refine srst (m := l.length) (cap := cap) (sz := 1) hS rfl rfl Tryz.sizeOf3 rfl rfl (by simp at hl; omega) rfl ?_; clear hS; intro w hS
      replace hS : StX (Value.slice (some ⟨gb, 0, none⟩) l.length cap).ownBlock.toList w0 w [rowI (.slice (some ⟨gb, 0, none⟩) l.length cap) 3 1 l.length ((k2 ++ [x] ++ (y :: js) ++ l.drop (i + 1)).flatMap Bx.encI)] := by
        have e1 := splice_enc (enc := Bx.encI) encI_len (k2 ++ [y] ++ [x] ++ js ++ l.drop (i + 1)) (k2 ++ [y]).length y (by simp)
        have e2 := splice_enc (enc := Bx.encI) encI_len ((k2 ++ [y] ++ [x] ++ js ++ l.drop (i + 1)).set (k2 ++ [y]).length y) k2.length x (by simp)
        rw [← e1, show (k2 ++ [y]).length = k2.length + 1 by simp, swap_set] at e2
        rw [← e2]; rw [show (k2 ++ [y]).length = k2.length + 1 by simp] at hS; exact hS
      refine nil ?_
      refine ⟨⟨fun h => absurd h (by decide), fun h => absurd h (by decide)⟩, ?_⟩
      show wpR _ _ _ _ _ _ _ _ _ _ _ _
      refine r_end (by kernel_rfl) ?_
      show Code.wp _ _ _ _ _
      refine region ?_
      refine sv (yMove h9) ?_
      refine sv (ySub rfl rfl ⟨by omega, by omega⟩) ?_
      refine sv (yAsg rfl) ?_
      refine nil ?_
      exact ⟨_, _, rfl, ⟨k2, y :: js, h0, h1, h2, h3, h8, (rfl.trans (congrArg (Value.int .i64) (by simp))), hS, (by simp at hl ⊢; omega), (by rw [hI, ins_move (cmpI_neg.1 c34.2), List.reverse_cons, List.append_assoc]; rfl), (fun z hz => hks z (by simp [hz])), rfl⟩, by simp⟩
    ·
      simp only [BS, ne_eq] at c34
      have hst := ins_none (f := fk) hy (by simpa only [Int.not_lt, Nat.not_lt] using (show ¬ 0 < ks.length ∨ ¬ (cmpI (fk x) (fk y)) < 0 by omega))
      have hfin : (sortR fk (l.take (i + 1))).reverse ++ l.drop (i + 1) = ks ++ [x] ++ js ++ l.drop (i + 1) := by rw [sortV_step fk hx, hI, hst]; simp
      refine exit ?_
      show Code.wp _ _ _ _ _
      refine region ?_
      refine sv (yMove h8) ?_
      refine sv (yAdd rfl rfl ⟨by omega, by omega⟩) ?_
      refine sv (yAsg rfl) ?_
      refine nil ?_
      exact ⟨_, _, rfl, ⟨i + 1, h0, h1, h2, h3, rfl, (by rw [hfin]; exact hS), (⟨by omega, by omega⟩), rfl⟩, by omega⟩
  ·
    simp only [BS, ne_eq] at c14
    have hfin : (sortR fk (l.take i)).reverse ++ l.drop i = sortV fk l := ins_end (by omega)
    refine exit ?_
    refine thenOut ?_
    refine thenOut ?_
    refine blockIn ?_
    show bodyPost _ _ _ .normal _ _
    refine retN (results_none rfl _ _ _) ?_
    rw [hfin] at hS
    exact ⟨rfl, hS⟩
end Go.Proofs.YtmoilbakmlekbaaGreatDoor

/- part A15 -/
namespace Bx
open Go Go.RowKit
section
variable {P : Program} {ops : Array Oper} {S : List Nat} {w0 : World} {L : List Item} {n : Nat} {rest : List Oper} {f : Fr} {d : Nat} {ty : TypeId} {pos : String} {af : Array Edge} {w : World} {Q : Exit → Act → World → Prop} {ρ : Operand → Value}
theorem yFnB {g : Nat} {bl : List Operand} {vs : List Value} (h : Evs ρ bl vs) : Y P ρ (.makeFunc (.func g) bl.toArray #[]) ty w (.func (.func g) vs.toArray #[]) w := by
  unfold Evs at h
  simp [Y, xop, execOp, Instr.makeFunc, h]
theorem enter_runB {ρ : Operand → Value} {fx : Operand} {args : List Operand} {ts : Array TypeId} {g : FuncId} {vs bl : List Value} {caps : Array Value} (hf : ρ fx = .func (.func g) bl.toArray caps) (ha : Evs ρ args vs)
    (hc : ∀ ars w, (callFunc g ars).run P w = .ok (.enter g ars) w) : (xop ρ (.call ⟨.value fx, args.toArray, ts⟩) ty).run P w = .ok (.enter g ((bl ++ vs).toArray ++ caps)) w := by
  unfold Evs at ha
  simp only [xop, execOp, resolve, hf, Deferred.ofValue, Sem.run_bind, Sem.run_pure, Result.andThen_ok, invoke, hc, List.map_toArray, ha]
  simp
theorem scallfB {fx : Operand} {g : FuncId} {xs : List Operand} {ts : Array TypeId} {vs bl cl : List Value} {R : Value → World → Prop} (hf : ev n f fx = .func (.func g) bl.toArray cl.toArray) (hc : ∀ ars w, (callFunc g ars).run P w = .ok (.enter g ars) w)
    (ha : Evs (ev n f) xs vs) (hC : CE P g (bl ++ vs ++ cl).toArray w R)
    (h : ∀ v w', R v w' → wpL P ops Q n rest (upd f d v) w') : wpL P ops Q n (⟨some d, .call ⟨.value fx, xs.toArray, ts⟩, ty, pos, af, none⟩ :: rest) f w := by
  have hr := enter_runB (P := P) (ρ := ev n f) (w := w) (ty := ty) (ts := ts) hf ha hc
  rw [List.append_toArray] at hr
  exact scallV hr hC h
theorem qcallfB {K : Act → Prop} {fx : Operand} {g : FuncId} {xs : List Operand} {ts : Array TypeId} {vs bl cl : List Value} {v : Value} (hf : ev n f fx = .func (.func g) bl.toArray cl.toArray) (hc : ∀ ars w, (callFunc g ars).run P w = .ok (.enter g ars) w) (ha : Evs (ev n f) xs vs)
    (hC : ∀ w, StX S w0 w L → CV P g (bl ++ vs ++ cl).toArray w v)
    (h : wpQ P ops S w0 L K n rest (upd f d v)) : wpQ P ops S w0 L K n (⟨some d, .call ⟨.value fx, xs.toArray, ts⟩, ty, pos, af, none⟩ :: rest) f := by
  refine qcallV (fun w => ?_) hC h
  have hr := enter_runB (P := P) (ρ := ev n f) (w := w) (ty := ty) (ts := ts) hf ha hc
  rw [List.append_toArray] at hr
  exact hr
end
theorem StX.notR {S : List Nat} {w0 w : World} {v : Value} {E : TypeId} {k n : Nat} {xs : List Value} {L : List Item} (h : StX S w0 w (rowI v E k n xs :: L)) {b : Nat} (hb : b ∈ fps L) : b ∉ v.ownBlock.toList := fun hv' => by
  have := h.apart
  rw [show fps (rowI v E k n xs :: L) = v.ownBlock.toList ++ fps L from rfl, List.nodup_append] at this
  exact this.2.2 b hv' b hb rfl
theorem ExtX.oldR {w0 w w' : World} {v : Value} {L : List Item} (h : StX [] w0 w L) {Lf : Item → List Item} [j : SetR L v Lf] (e : ExtX v.ownBlock.toList w w') : Ext w0 w' := e.old h.ext fun b hb => h.owned (j.mem b (by simpa using hb))
theorem roomF_snoc (t : Task) (all : List Msg) (x : Msg) (now c : Int) : roomF t (all ++ [x]) now c = if x.channel = c ∧ x.sent = now then roomF t all now c - 1 else roomF t all now c := by
  unfold roomF; rw [usedF_snoc]
  by_cases h : x.channel = c ∧ x.sent = now
  · rw [if_pos h, if_pos h]; omega
  · rw [if_neg h, if_neg h]
theorem roomF_nil (t : Task) (now c : Int) : roomF t [] now c = (chn t c).room := by show (chn t c).room - 0 = _; omega
theorem roomF_bd {t : Task} (ht : TaskOk t) {c : Int} (hc : 0 ≤ c ∧ c < t.chans.length) (all : List Msg) (now : Int) : -(all.length : Int) ≤ roomF t all now c ∧ roomF t all now c ≤ 20 := by
  have h1 := (chan_ok ht hc).2
  have h2 := usedF_bd now c all
  unfold roomF
  omega
theorem last_step {log : List Msg} {k N : Nat} {x : Msg} (hx : log[k]? = some x) {ls : List Int} (hl : ls.length = N) (hxt : 0 ≤ x.town ∧ x.town < N) (h : ∀ j : Nat, j < N → ls[j]? = some (lastF (log.take k) (j : Int))) :
    ∀ j : Nat, j < N → (ls.set x.town.toNat x.stage)[j]? = some (lastF (log.take (k + 1)) (j : Int)) := by
  intro j hj
  rw [take_snoc hx, lastF_snoc, List.getElem?_set]
  by_cases e : x.town = (j : Int)
  · rw [if_pos (by omega), if_pos (by omega), if_pos e]
  · rw [if_neg (by omega), if_neg e]; exact h j hj
theorem room_step {t : Task} {all : List Msg} {now : Int} {x : Msg} {rs : List Int} (hl : rs.length = t.chans.length) (hxc : 0 ≤ x.channel ∧ x.channel < t.chans.length) (hs : x.sent = now) (h : ∀ j : Nat, j < t.chans.length → rs[j]? = some (roomF t all now (j : Int))) :
    ∀ j : Nat, j < t.chans.length → (rs.set x.channel.toNat (roomF t all now x.channel - 1))[j]? = some (roomF t (all ++ [x]) now (j : Int)) := by
  intro j hj
  rw [roomF_snoc, List.getElem?_set]
  by_cases e : x.channel = (j : Int)
  · rw [if_pos (by omega), if_pos (by omega), if_pos ⟨e, hs⟩, e]
  · rw [if_neg (by omega), if_neg (fun h => e h.1)]; exact h j hj
theorem room_keep {t : Task} {all : List Msg} {now : Int} {x : Msg} {rs : List Int} (hs : x.sent ≠ now) (h : ∀ j : Nat, j < t.chans.length → rs[j]? = some (roomF t all now (j : Int))) :
    ∀ j : Nat, j < t.chans.length → rs[j]? = some (roomF t (all ++ [x]) now (j : Int)) := by
  intro j hj
  rw [roomF_snoc, if_neg (fun h => hs h.2)]; exact h j hj
theorem at_i {n : Nat} {rs : List Int} {f : Int → Int} (h : ∀ j : Nat, j < n → rs[j]? = some (f (j : Int))) {c : Int} (hc : 0 ≤ c ∧ c < n) : rs[c.toNat]? = some (f c) := by
  have := h c.toNat (by omega)
  rw [show ((c.toNat : Nat) : Int) = c by omega] at this
  exact this
def upK (t : Task) (log : List Msg) (now : Int) (k : Nat) : List Int := ((idxL t).take k).filter fun i => decide (lastF log i < stageF t i now)
def downK (t : Task) (log : List Msg) (now : Int) (k : Nat) : List Int := ((idxL t).take k).filter fun i => decide (stageF t i now < lastF log i)
theorem filt_in {t : Task} {p : Int → Bool} {k : Nat} (hk : k < t.towns.length) (h : p (k : Int) = true) : ((idxL t).take (k + 1)).filter p = ((idxL t).take k).filter p ++ [(k : Int)] := by
  rw [take_snoc (idxL_get hk), List.filter_append, List.filter_cons_of_pos h, List.filter_nil]
theorem filt_out {t : Task} {p : Int → Bool} {k : Nat} (hk : k < t.towns.length) (h : p (k : Int) = false) : ((idxL t).take (k + 1)).filter p = ((idxL t).take k).filter p := by
  rw [take_snoc (idxL_get hk), List.filter_append, List.filter_cons_of_neg (by simp [h]), List.filter_nil, List.append_nil]
theorem upK_len (t : Task) (log : List Msg) (now : Int) (k : Nat) : (upK t log now k).length ≤ k := Nat.le_trans (List.length_filter_le _ _) (by simp; omega)
theorem downK_len (t : Task) (log : List Msg) (now : Int) (k : Nat) : (downK t log now k).length ≤ k := Nat.le_trans (List.length_filter_le _ _) (by simp; omega)
theorem upK_end (t : Task) (log : List Msg) (now : Int) : upK t log now t.towns.length = upL t log now := by unfold upK upL; rw [← idxL_len, List.take_length]
theorem downK_end (t : Task) (log : List Msg) (now : Int) : downK t log now t.towns.length = downL t log now := by unfold downK downL; rw [← idxL_len, List.take_length]
theorem idxL_mem {t : Task} {i : Int} (h : i ∈ idxL t) : 0 ≤ i ∧ i < t.towns.length := by
  obtain ⟨a, ha, rfl⟩ := List.mem_map.1 h
  have := List.mem_range.1 ha
  exact ⟨Int.natCast_nonneg a, by show (a : Int) < _; omega⟩
theorem upL_mem {t : Task} {log : List Msg} {now i : Int} (h : i ∈ upL t log now) : 0 ≤ i ∧ i < t.towns.length := idxL_mem (List.mem_filter.1 h).1
theorem ordL_mem {t : Task} {log : List Msg} {now i : Int} (h : i ∈ ordL t log now) : 0 ≤ i ∧ i < t.towns.length := by
  rcases List.mem_append.1 h with h | h
  · exact upL_mem ((sortV_perm _ _).mem_iff.1 h)
  · exact idxL_mem (List.mem_filter.1 h).1
theorem ordL_len (t : Task) (log : List Msg) (now : Int) : (ordL t log now).length = (upL t log now).length + (downL t log now).length := by unfold ordL; rw [List.length_append, sortV_len]
theorem chans_len {t : Task} (ht : TaskOk t) {i : Int} (hi : 0 ≤ i ∧ i < t.towns.length) : (twn t i).chans.length ≤ 4 := by
  have ho := town_ok ht hi
  have := pig (twn t i).chans (fun c => c.toNat) (List.range t.chans.length) ho.nod (fun c hc => by have := ho.chans c hc; exact List.mem_range.2 (by omega)) (fun a ha b hb h => by have := ho.chans a ha; have := ho.chans b hb; omega)
  rw [List.length_range] at this
  have := ht.nch
  omega
theorem canL_mem {t : Task} {all : List Msg} {now i c : Int} (h : c ∈ canL t all now i) : c ∈ (twn t i).chans := (List.mem_filter.1 h).1
theorem canL_len {t : Task} (ht : TaskOk t) {i : Int} (hi : 0 ≤ i ∧ i < t.towns.length) (all : List Msg) (now : Int) : (canL t all now i).length ≤ 4 := Nat.le_trans (List.length_filter_le _ _) (chans_len ht hi)
theorem step_none {t : Task} {now i : Int} {all : List Msg} (h : (canL t all now i).length = 0) : nextStep t now all i = all := by
  unfold nextStep byF
  rw [List.eq_nil_of_length_eq_zero h]; rfl
theorem step_some {t : Task} {now i c : Int} {all : List Msg} (h : (sortV (fun c => (chn t c).delay) (canL t all now i))[0]? = some c) : nextStep t now all i = all ++ [msgF t all now i c] := by
  unfold nextStep byF
  rw [List.head?_eq_getElem?, h]
theorem fold_none {t : Task} {now i : Int} {l : List Int} {k : Nat} {log all : List Msg} (hi : l[k]? = some i) (hA : (l.take k).foldl (nextStep t now) log = all) (h : nextStep t now all i = all) : (l.take (k + 1)).foldl (nextStep t now) log = all := by
  rw [take_snoc hi, List.foldl_append, hA]; exact h
theorem fold_some {t : Task} {now i : Int} {l : List Int} {k : Nat} {log out : List Msg} {m : Msg} (hi : l[k]? = some i) (hA : (l.take k).foldl (nextStep t now) log = log ++ out) (h : nextStep t now (log ++ out) i = (log ++ out) ++ [m]) : (l.take (k + 1)).foldl (nextStep t now) log = log ++ (out ++ [m]) := by
  rw [take_snoc hi, List.foldl_append, hA, ← List.append_assoc]; exact h
theorem next_end {t : Task} {log out : List Msg} {now : Int} (hA : ((ordL t log now).take (ordL t log now).length).foldl (nextStep t now) log = log ++ out) : nextF t log now = out := by
  unfold nextF allF
  rw [List.take_length] at hA
  rw [hA, List.drop_left]
theorem late_eq {log : List Msg} {z : Msg} {now : Int} (h : log[((log.length : Int) - 1).toNat]? = some z) : lateB log now = decide (now < z.sent) := by
  have h0 := (List.getElem?_eq_some_iff.1 h).1
  have h1 : log.getLast? = some z := by rw [List.getLast?_eq_getElem?, ← h]; congr 1; omega
  unfold lateB
  rw [h1, decide_eq_true (show 0 < log.length by omega), Bool.true_and]; rfl
theorem late_if {log : List Msg} {z : Msg} {now : Int} (h : (0 : Int) < log.length → log[((log.length : Int) - 1).toNat]? = some z) : lateB log now = (decide ((0 : Int) < log.length) && decide (now < z.sent)) := by
  by_cases h0 : (0 : Int) < log.length
  · rw [late_eq (h h0), decide_eq_true h0, Bool.true_and]
  · unfold lateB
    rw [decide_eq_false h0, decide_eq_false (show ¬ 0 < log.length by omega), Bool.false_and, Bool.false_and]
theorem last_at {w : World} {a : Option Addr} {cap : Nat} {log : List Msg} (hl : Sl w 5 RMsg (.slice a log.length cap) log) : ∃ z b o cs, (0 : Int) < log.length → a = some ⟨b, o, none⟩ ∧ Cells w b (o + ((log.length : Int) - 1).toNat * 5) cs ∧ cs[4]? = some (.int .i64 z.sent) ∧ log[((log.length : Int) - 1).toNat]? = some z := by
  by_cases h0 : (0 : Int) < log.length
  · obtain ⟨z, hz⟩ : ∃ z, log[((log.length : Int) - 1).toNat]? = some z := ⟨_, List.getElem?_eq_getElem (show ((log.length : Int) - 1).toNat < log.length by omega)⟩
    obtain ⟨b, o, cs, ha, -, hc, hR, -⟩ := sl_at hl hz
    obtain ⟨rfl, -⟩ := hR
    exact ⟨z, b, o, _, fun _ => ⟨ha, hc, rfl, hz⟩⟩
  · exact ⟨⟨0, 0, 0, 0, 0⟩, 0, 0, [], fun h => absurd h h0⟩
end Bx

/- part Aw14 -/
namespace Go.Proofs.YtmoilbakmlekbaaGreatDoor
open Go Bx
set_option maxHeartbeats 1000000 in
/-- slices.stableCmpFunc int  -/
theorem c_stable {l : List Int} {fk : Int → Int} {a : Option Addr} {cap g : Nat} {cl : List Value} {w0 : World} (hr : w0.ownsRow 0 3 1 (.slice a l.length cap) l.length (l.flatMap Bx.encI)) (hcall : ∀ ys w, (callFunc g ys).run Tryz.prog w = .ok (.enter g ys) w) (hp : ∀ x y w, x ∈ l → y ∈ l → ExtX (Value.slice a l.length cap).ownBlock.toList w0 w → CV Tryz.prog g (.int .i64 x :: .int .i64 y :: cl).toArray w (.int .i64 (cmpI (fk x) (fk y)))) (hlen : l.length < 20) : CE Tryz.prog 138 #[.slice a l.length cap, .int .i64 (l.length : Int), .func (.func g) #[] cl.toArray] w0 (fun u w' => u = .tuple #[] ∧ StX (Value.slice a l.length cap).ownBlock.toList w0 w' [rowI (.slice a l.length cap) 3 1 l.length ((sortV fk l).flatMap Bx.encI)]) := by
  refine enter Tryz.func138 rfl Tryz.ntmps138 rfl ?_
  have hS := StX.startR hr
  refine seq ?_
  refine region ?_
  refine sv (yAsg rfl) ?_
  refine nil ?_
  show Code.wp _ _ _ _ _
  refine seq ?_
  refine region ?_
  refine sv (yMove rfl) ?_
  refine sv (yAsg rfl) ?_
  refine sv (yAsg rfl) ?_
  refine nil ?_
  show Code.wp _ _ _ _ _
  refine seq ?_
  refine block ?_
  refine loop (fun f w zz => f 0 = .slice a l.length cap ∧ f 1 = .int .i64 (l.length : Int) ∧ f 2 = .func (.func g) #[] cl.toArray ∧ f 6 = .int .i64 20 ∧ f 7 = .int .i64 0 ∧ f 8 = .int .i64 20 ∧ StX (Value.slice a l.length cap).ownBlock.toList w0 w ([rowI (.slice a l.length cap) 3 1 l.length ((l).flatMap Bx.encI)]) ∧ zz = 0) _ ⟨_, rfl, rfl, rfl, rfl, rfl, rfl, rfl, hS, rfl⟩ ?_
  clear hS
  rintro f w _ ⟨h0, h1, h2, h6, h7, h8, hS, rfl⟩
  refine seq ?_
  refine seq ?_
  refine region ?_
  refine sv (yMove h8) ?_
  refine sv (yMove h1) ?_
  refine sv (yLeq rfl rfl) ?_
  refine nil ?_
  show Code.wp _ _ _ _ _
  refine cond rfl (fun c13 => ?_) (fun c13 => ?_)
  ·
    simp only [BS, ne_eq] at c13
    exfalso; omega
  ·
    simp only [BS, ne_eq] at c13
    refine exit ?_
    show Code.wp _ _ _ _ _
    refine seq ?_
    refine region ?_
    refine sv (yMove h0) ?_
    refine sv (yMove h7) ?_
    refine sv (yMove h1) ?_
    refine sv (yMove h2) ?_
    refine scall Tryz.call156 (.cons rfl (.cons rfl (.cons rfl (.cons rfl .nil)))) (c_insSort (hS.row (.slice a l.length cap)) hcall (fun x y w hx hy e => hp x y w hx hy (hS.extx.trans2 e)) (by omega)) ?_
    rintro _ w ⟨rfl, hM⟩
    replace hS := hS.app (v := .slice a l.length cap) (v' := .slice a l.length cap) (hM.row _) hM.grown (.inl rfl)
    clear hM
    refine nil ?_
    show Code.wp _ _ _ _ _
    refine block ?_
    refine loop (fun f w zz => f 0 = .slice a l.length cap ∧ f 1 = .int .i64 (l.length : Int) ∧ f 2 = .func (.func g) #[] cl.toArray ∧ f 6 = .int .i64 20 ∧ StX (Value.slice a l.length cap).ownBlock.toList w0 w ([rowI (.slice a l.length cap) 3 1 l.length ((sortV fk l).flatMap Bx.encI)]) ∧ zz = 0) _ ⟨_, rfl, h0, h1, h2, h6, hS, rfl⟩ ?_
    clear hS
    rintro f w _ ⟨h0, h1, h2, h6, hS, rfl⟩
    refine seq ?_
    refine seq ?_
    refine region ?_
    refine sv (yMove h6) ?_
    refine sv (yMove h1) ?_
    refine sv (yLss rfl rfl) ?_
    refine nil ?_
    show Code.wp _ _ _ _ _
    refine cond rfl (fun c30 => ?_) (fun c30 => ?_)
    ·
      simp only [BS, ne_eq] at c30
      exfalso; omega
    ·
      simp only [BS, ne_eq] at c30
      refine exit ?_
      refine thenOut ?_
      refine thenOut ?_
      refine blockIn ?_
      show bodyPost _ _ _ .normal _ _
      refine retN (results_none rfl _ _ _) ?_
      exact ⟨rfl, hS⟩
/-- slices.SortStableFunc   int,int  -/
theorem c_SortStable {l : List Int} {fk : Int → Int} {a : Option Addr} {cap g : Nat} {cl : List Value} {w0 : World} (hr : w0.ownsRow 0 3 1 (.slice a l.length cap) l.length (l.flatMap Bx.encI)) (hcall : ∀ ys w, (callFunc g ys).run Tryz.prog w = .ok (.enter g ys) w) (hp : ∀ x y w, x ∈ l → y ∈ l → ExtX (Value.slice a l.length cap).ownBlock.toList w0 w → CV Tryz.prog g (.int .i64 x :: .int .i64 y :: cl).toArray w (.int .i64 (cmpI (fk x) (fk y)))) (hlen : l.length < 20) : CE Tryz.prog 117 #[.slice a l.length cap, .func (.func g) #[] cl.toArray] w0 (fun u w' => u = .tuple #[] ∧ StX (Value.slice a l.length cap).ownBlock.toList w0 w' [rowI (.slice a l.length cap) 3 1 l.length ((sortV fk l).flatMap Bx.encI)]) := by
  refine enter Tryz.func117 rfl Tryz.ntmps117 rfl ?_
  have hS := StX.startR hr
  refine region ?_
  refine sv (yMove rfl) ?_
  refine sv (yMove rfl) ?_
  refine sv (yLen rfl Tryz.underlying34) ?_
  refine sv (yMove rfl) ?_
  refine scall Tryz.call138 (.cons rfl (.cons rfl (.cons rfl .nil))) (c_stable (hS.row (.slice a l.length cap)) hcall (fun x y w hx hy e => hp x y w hx hy (hS.extx.trans2 e)) hlen) ?_
  rintro _ w ⟨rfl, hM⟩
  replace hS := hS.app (v := .slice a l.length cap) (v' := .slice a l.length cap) (hM.row _) hM.grown (.inl rfl)
  clear hM
  refine nil ?_
  show bodyPost _ _ _ .normal _ _
  refine retN (results_none rfl _ _ _) ?_
  exact ⟨rfl, hS⟩
/-- barrage/alarm.sorted int,int  closure 1 -/
theorem c_sorted1 {x y u v : Int} {gk b : Nat} {bk ck : List Value} {T : TypeId} {w0 : World} (hb : w0.heap[b]? = some (.cells [.func (.func gk) bk.toArray ck.toArray].toArray T (0, 0))) (hcall : ∀ ys w, (callFunc gk ys).run Tryz.prog w = .ok (.enter gk ys) w) (h1 : ∀ w, Ext w0 w → CV Tryz.prog gk (bk ++ [Value.int .i64 x] ++ ck).toArray w (.int .i64 u)) (h2 : ∀ w, Ext w0 w → CV Tryz.prog gk (bk ++ [Value.int .i64 y] ++ ck).toArray w (.int .i64 v)) : CV Tryz.prog 118 #[.int .i64 x, .int .i64 y, .pointer (some ⟨b, 0, none⟩)] w0 (.int .i64 (cmpI u v)) := by
  refine enter Tryz.func118 rfl Tryz.ntmps118 rfl ?_
  have hS := St.start w0
  refine seq ?_
  refine region ?_
  refine sv (yAsg rfl) ?_
  refine nil ?_
  show Code.wp _ _ _ _ _
  refine seq ?_
  refine region_draw mixed (by kernel_rfl) hS ?_
  refine qv (fun w hS => (yLdB rfl Tryz.isAgg147 (hS.ext.get hb) rfl)) ?_
  refine qv (fun w hS => (yMove rfl)) ?_
  refine qcallfB rfl hcall (.cons rfl .nil) (fun w hS => (h1 _ hS.ext)) ?_
  refine qv (fun w hS => (yLdB rfl Tryz.isAgg147 (hS.ext.get hb) rfl)) ?_
  refine qv (fun w hS => (yMove rfl)) ?_
  refine qcallfB rfl hcall (.cons rfl .nil) (fun w hS => (h2 _ hS.ext)) ?_
  refine qcall Tryz.call119 (.cons rfl (.cons rfl .nil)) (fun w hS => c_cmp) ?_
  refine qv (fun w hS => (yAsg rfl)) ?_
  clear hS; refine qnil (fun w hS => ?_)
  show Code.wp _ _ _ _ _
  refine wp_ret ?_
  exact retV (res1 rfl rfl) hS.ext
/-- barrage/alarm.sorted int,int  -/
theorem c_sorted {l : List Int} {fk : Int → Int} {a : Option Addr} {cap gk : Nat} {bk ck : List Value} {w0 : World} (hr : w0.ownsRow 0 3 1 (.slice a l.length cap) l.length (l.flatMap Bx.encI)) (hcall : ∀ ys w, (callFunc gk ys).run Tryz.prog w = .ok (.enter gk ys) w) (hk : ∀ x w, x ∈ l → ExtX (Value.slice a l.length cap).ownBlock.toList w0 w → CV Tryz.prog gk (bk ++ [Value.int .i64 x] ++ ck).toArray w (.int .i64 (fk x))) (hlen : l.length < 20) : CE Tryz.prog 75 #[.slice a l.length cap, .func (.func gk) bk.toArray ck.toArray] w0 (fun u w' => u = .slice a l.length cap ∧ StX (Value.slice a l.length cap).ownBlock.toList w0 w' [rowI (.slice a l.length cap) 3 1 l.length ((sortV fk l).flatMap Bx.encI)]) := by
  refine enter Tryz.func75 rfl Tryz.ntmps75 rfl ?_
  have hS := StX.startR hr
  refine seq ?_
  refine region ?_
  refine sbox hS rfl rfl ?_; clear hS; intro b3 w hS
  refine sv (yAsg rfl) ?_
  refine nil ?_
  show Code.wp _ _ _ _ _
  refine seq ?_
  refine region ?_
  refine sv (yMove rfl) ?_
  refine sv (yFn (.cons rfl .nil)) ?_
  have hno := notOwn hS
  refine scall Tryz.call117 (.cons rfl (.cons rfl .nil)) (c_SortStable (hS.row (.slice a l.length cap)) Tryz.call118 (fun x y w hx hy e => c_sorted1 (e.get (hS.at b3) hno) hcall (fun w2 e2 => hk x w2 hx ((hS.extx.trans2 e).trans e2)) (fun w2 e2 => hk y w2 hy ((hS.extx.trans2 e).trans e2))) hlen) ?_
  rintro _ w ⟨rfl, hM⟩
  replace hS := hS.app (v := .slice a l.length cap) (v' := .slice a l.length cap) (hM.row _) hM.grown (.inl rfl)
  clear hM
  refine nil ?_
  show Code.wp _ _ _ _ _
  refine seq ?_
  refine region ?_
  refine sv (yMove rfl) ?_
  refine sv (yAsg rfl) ?_
  refine nil ?_
  show Code.wp _ _ _ _ _
  refine wp_ret ?_
  refine retQ (res1 rfl rfl) ?_
  exact ⟨rfl, hS.sub (.cons _ (List.Sublist.refl _))⟩
/-- slices.Clone   int,int  -/
theorem c_CloneI {l : List Int} {a : Option Addr} {cap : Nat} {w0 : World} (hsl : Sl w0 1 RInt (.slice a l.length cap) l) (hlen : l.length ≤ 1000) : CE Tryz.prog 86 #[.slice a l.length cap] w0 (fun u w' => St w0 w' [rowI u 3 1 l.length (l.flatMap Bx.encI)]) := by
  refine enter Tryz.func86 rfl Tryz.ntmps86 rfl ?_
  have hS := St.start w0
  refine seq ?_
  refine region ?_
  refine sv (yAsg rfl) ?_
  refine nil ?_
  show Code.wp _ _ _ _ _
  refine seq ?_
  refine seq ?_
  refine region ?_
  refine sv (yMove rfl) ?_
  refine sv (yEqNil rfl rfl Tryz.underlying34) ?_
  refine nil ?_
  show Code.wp _ _ _ _ _
  refine cond rfl (fun c4 => ?_) (fun c4 => ?_)
  ·
    obtain rfl : a = none := by cases a with | none => rfl | some _ => cases c4
    obtain rfl := sl_nil_of hsl
    refine seq ?_
    refine region ?_
    refine sv (yAsg rfl) ?_
    refine nil ?_
    show Code.wp _ _ _ _ _
    refine wp_ret (thenR ?_)
    refine retQ (res1 rfl rfl) ?_
    exact hS.nilrow 3 1
  ·
    refine skip ?_
    show Code.wp _ _ _ _ _
    refine seq ?_
    refine region ?_
    refine sbslice0 hS Tryz.underlying34 Tryz.sizeOf3 ?_; clear hS; intro b5 w hS
    refine sv (yMove rfl) ?_
    refine sappS (bytes := 8) (size := 1) hS rfl rfl Tryz.underlying34 ti3 rfl rfl rfl rfl (by decide) Tryz.sizeOf3 (fun hh => by obtain ⟨bd, od, e1, e2⟩ := ints_news hsl hh; exact ⟨bd, od, e1, e2.ext hS.ext⟩) (by rw [flat_len encI_len]) (ints_one l) (by omega) (by omega) ?_; clear hS; intro v7 w hS; rw [Nat.zero_add, List.nil_append] at hS
    refine sv (yAsg rfl) ?_
    refine nil ?_
    show Code.wp _ _ _ _ _
    refine wp_ret ?_
    refine retQ (res1 rfl rfl) ?_
    exact hS
set_option maxHeartbeats 2000000 in
/-- slices.DeleteFunc   int,int  -/
theorem c_DeleteI {l : List Int} {p : Int → Bool} {a : Option Addr} {cap g : Nat} {cl : List Value} {w0 : World} (hr : w0.ownsRow 0 3 1 (.slice a l.length cap) l.length (l.flatMap Bx.encI)) (hcall : ∀ ys w, (callFunc g ys).run Tryz.prog w = .ok (.enter g ys) w) (hp : ∀ x w, x ∈ l → ExtX (Value.slice a l.length cap).ownBlock.toList w0 w → CV Tryz.prog g (.int .i64 x :: cl).toArray w (.bool (p x))) (hI : ∀ x ∈ l, I64 x) (hlen : l.length ≤ 1000) : CE Tryz.prog 85 #[.slice a l.length cap, .func (.func g) #[] cl.toArray] w0 (fun u w' => u = .slice a (l.filter fun x => !p x).length cap ∧ StX (Value.slice a l.length cap).ownBlock.toList w0 w' [rowI (.slice a (l.filter fun x => !p x).length cap) 3 1 (l.filter fun x => !p x).length ((l.filter fun x => !p x).flatMap Bx.encI)]) := by
  refine enter Tryz.func85 rfl Tryz.ntmps85 rfl ?_
  have hS := StX.startR hr
  refine seq ?_
  refine region ?_
  refine sv (yAsg rfl) ?_
  refine nil ?_
  show Code.wp _ _ _ _ _
  refine seq ?_
  refine region ?_
  refine sv (yMove rfl) ?_
  refine sv (yMove rfl) ?_
  refine scall Tryz.call111 (.cons rfl (.cons rfl .nil)) (c_IndexFuncInt (sl_ints (hS.row (.slice a l.length cap)) rfl hI) hcall (fun x cs w hx e _ => hp x w hx (hS.extx.trans e))) ?_
  rintro _ w ⟨rfl, hE⟩; replace hS := hS.step hE; clear hE
  have hix := idxF_spec p l 0 (Int.le_refl 0)
  generalize idxF p l 0 = ix at hix ⊢
  refine sv (yAsg rfl) ?_
  refine nil ?_
  show Code.wp _ _ _ _ _
  refine seq ?_
  refine seq ?_
  refine region ?_
  refine sv (yMove rfl) ?_
  refine sv (yEql rfl rfl) ?_
  refine nil ?_
  show Code.wp _ _ _ _ _
  refine cond rfl (fun c12 => ?_) (fun c12 => ?_)
  ·
    simp only [BS, ne_eq] at c12
    have hfl : (l.filter fun x => !p x) = l := by
      rcases hix with ⟨-, h⟩ | ⟨k, -, h, -⟩
      · exact h
      · omega
    refine seq ?_
    refine region ?_
    refine sv (yMove rfl) ?_
    refine sv (yAsg rfl) ?_
    refine nil ?_
    show Code.wp _ _ _ _ _
    refine wp_ret (thenR ?_)
    refine retQ (res1 rfl rfl) ?_
    rw [hfl]
    exact ⟨rfl, hS⟩
  ·
    simp only [BS, ne_eq] at c12
    obtain ⟨i0, hi0, hie, hi1, z, hz, hpz⟩ := hix.resolve_left (fun h => c12 h.1)
    obtain ⟨gb, rfl, -⟩ := row_get (hS.row (.slice a l.length cap)) (by omega)
    obtain rfl : ix = (i0 : Int) := by omega
    have hcap : l.length ≤ cap := by
      obtain ⟨g2, c2, e2, h2, -⟩ := row_some (hS.row (.slice (some ⟨gb, 0, none⟩) l.length cap)) (by omega)
      obtain ⟨-, rfl⟩ := slice_inj e2
      exact h2
    refine skip ?_
    show Code.wp _ _ _ _ _
    refine seq ?_
    refine seq ?_
    refine region ?_
    refine sv (yMove rfl) ?_
    refine sv (yAdd rfl rfl ⟨by omega, by omega⟩) ?_
    refine sv (yAsg rfl) ?_
    refine nil ?_
    show Code.wp _ _ _ _ _
    refine block ?_
    have htl : (l.take i0).length = i0 := by simp; omega
    refine loop (fun f w zz => ∃ (ks js : List Int) (j : Nat), f 0 = .slice (some ⟨gb, 0, none⟩) l.length cap ∧ f 1 = .func (.func g) #[] cl.toArray ∧ f 5 = .int .i64 (ks.length : Int) ∧ f 6 = .int .i64 (j : Int) ∧ StX (Value.slice (some ⟨gb, 0, none⟩) l.length cap).ownBlock.toList w0 w ([rowI (.slice (some ⟨gb, 0, none⟩) l.length cap) 3 1 l.length ((ks ++ js ++ l.drop j).flatMap Bx.encI)]) ∧ (j ≤ l.length) ∧ (ks.length + js.length = j) ∧ (js ≠ []) ∧ ((l.filter fun x => !p x) = ks ++ (l.drop j).filter fun x => !p x) ∧ zz = l.length - j) _ ⟨_, rfl, l.take i0, [z], i0 + 1, rfl, rfl, (by rw [htl]; exact rfl), rfl, (by rw [cut_at hz]; exact hS), (by omega), (by rw [htl]; rfl), (by simp), (filter_at hz hi1 hpz), rfl⟩ ?_
    clear hS
    rintro f w _ ⟨ks, js, j, h0, h1, h5, h6, hS, hj, hl, hne, hF, rfl⟩
    refine seq ?_
    refine seq ?_
    refine region ?_
    refine sv (yMove h6) ?_
    refine sv (yMove h0) ?_
    refine sv (yLen rfl Tryz.underlying34) ?_
    refine sv (yLss rfl rfl) ?_
    refine nil ?_
    show Code.wp _ _ _ _ _
    refine cond rfl (fun c19 => ?_) (fun c19 => ?_)
    ·
      simp only [BS, ne_eq] at c19
      obtain ⟨x, hx, hd⟩ := drop_of (l := l) (k := j) (by omega)
      refine skip ?_
      show Code.wp _ _ _ _ _
      refine seq ?_
      refine block ?_
      refine seq ?_
      refine region ?_
      refine sv (yMove h0) ?_
      refine sv (yMove h6) ?_
      refine sv (yIx0 rfl rfl Tryz.runUnderlying34 Tryz.sizeOf3 (by omega)) ?_
      refine sv (yLd rfl Tryz.isAgg3 ((flat_cells0 (enc := Bx.encI) encI_len (row_at (hS.row (.slice (some ⟨gb, 0, none⟩) l.length cap)) rfl (by omega)) (mid_get hl hx)).one)) ?_
      refine sv (yAsg rfl) ?_
      refine nil ?_
      show Code.wp _ _ _ _ _
      refine seq ?_
      refine region ?_
      refine sv (yMove h1) ?_
      refine sv (yMove rfl) ?_
      refine scallf rfl hcall (.cons rfl .nil) (hp x _ (List.mem_of_getElem? hx) hS.extx) ?_
      rintro _ w ⟨rfl, hE⟩; replace hS := hS.step hE; clear hE
      refine sv (yNot rfl) ?_
      refine nil ?_
      show Code.wp _ _ _ _ _
      refine cond rfl (fun c29 => ?_) (fun c29 => ?_)
      ·
        simp only [Bool.not_eq_true', Bool.not_eq_false', Bool.not_eq_true, Bool.not_eq_false] at c29
        refine seq ?_
        refine region ?_
        refine sv (yMove h0) ?_
        refine sv (yMove h5) ?_
        refine sv (yMove rfl) ?_
        refine sv (yIx0 rfl rfl Tryz.runUnderlying34 Tryz.sizeOf3 (by have := List.length_pos_iff.2 hne; omega)) ?_
        refine srst (m := l.length) (cap := cap) (sz := 1) hS rfl rfl Tryz.sizeOf3 rfl rfl (by have := List.length_pos_iff.2 hne; omega) rfl ?_; clear hS; intro w hS
        refine nil ?_
        show Code.wp _ _ _ _ _
        refine region ?_
        refine sv (yMove h5) ?_
        refine sv (yAdd rfl rfl ⟨by omega, by omega⟩) ?_
        refine sv (yAsg rfl) ?_
        refine nil ?_
        show Code.wp _ _ _ _ _
        refine region ?_
        refine sv (yMove h6) ?_
        refine sv (yAdd rfl rfl ⟨by omega, by omega⟩) ?_
        refine sv (yAsg rfl) ?_
        refine nil ?_
        exact ⟨_, _, rfl, ⟨ks ++ [x], js.tail ++ [x], j + 1, h0, h1, (by rw [List.length_append]; exact rfl), rfl, (by rw [gap_outI hx hne]; exact hS), (by omega), (by simp; have := List.length_pos_iff.2 hne; omega), (by simp), (by rw [hF, hd, List.filter_cons_of_pos (by simpa using c29)]; simp), rfl⟩, by omega⟩
      ·
        simp only [Bool.not_eq_true', Bool.not_eq_false', Bool.not_eq_true, Bool.not_eq_false] at c29
        refine skip ?_
        show Code.wp _ _ _ _ _
        refine region ?_
        refine sv (yMove h6) ?_
        refine sv (yAdd rfl rfl ⟨by omega, by omega⟩) ?_
        refine sv (yAsg rfl) ?_
        refine nil ?_
        exact ⟨_, _, rfl, ⟨ks, js ++ [x], j + 1, h0, h1, h5, rfl, (by rw [gap_in hx]; exact hS), (by omega), (by simp; omega), (by simp), (by rw [hF, hd, List.filter_cons_of_neg (by simp [c29])]), rfl⟩, by omega⟩
    ·
      simp only [BS, ne_eq] at c19
      obtain rfl : j = l.length := by omega
      rw [List.drop_length] at hF
      have hfin : (l.filter fun x => !p x) = ks := by rw [hF]; simp
      refine exit ?_
      show Code.wp _ _ _ _ _
      refine seq ?_
      refine region ?_
      refine sv (yMove h0) ?_
      refine sv (yMove h5) ?_
      refine sv (yTail rfl rfl Tryz.underlying34 Tryz.sizeOf3 (by omega)) ?_
      refine sclear (i := ks.length) (m := l.length) hS rfl Tryz.underlying34 Tryz.zeroValue3 rfl (by decide) (by decide) (by omega) ?_; clear hS; intro w hS
      refine nil ?_
      show Code.wp _ _ _ _ _
      refine seq ?_
      refine region ?_
      refine sv (yMove h0) ?_
      refine sv (yMove h5) ?_
      refine sv (yHead ⟨_, rfl⟩ rfl rfl Tryz.underlying34 Tryz.sizeOf3 (by omega)) ?_
      refine sv (yAsg rfl) ?_
      refine nil ?_
      show Code.wp _ _ _ _ _
      refine wp_ret ?_
      refine retQ (res1 rfl rfl) ?_
      rw [hfin]
      rw [List.append_assoc, take_flatI] at hS
      exact ⟨rfl, hS⟩
end Go.Proofs.YtmoilbakmlekbaaGreatDoor

/- part Aw15 -/
namespace Go.Proofs.YtmoilbakmlekbaaGreatDoor
open Go Bx
set_option maxHeartbeats 2000000 in
/-- (*barrage/alarm.board).wrong -/
theorem c_wrong {t : Task} {log : List Msg} {b : Nat} {lv : Value} {w0 : World} (hB : RBoard w0 b t) (hl : Sl w0 5 RMsg lv log) : CV Tryz.prog 81 #[.pointer (some ⟨b, 0, none⟩), lv] w0 (.int .i64 (wrongF t log)) := by
  obtain ⟨al, cl, rfl, hlcap, hlmx, hlel⟩ := id hl
  obtain ⟨a1, c1, a2, c2, a3, c3, a4, c4, a5, c5, T, hb, s1, s2, s3, s4, s5, hok⟩ := id hB.opn
  have hn8 := hok.ntw
  have hf8 := hok.nfl
  have hc4 := hok.nch
  refine enter Tryz.func81 rfl Tryz.ntmps81 rfl ?_
  have hS := St.start w0
  refine seq ?_
  refine region ?_
  refine sv (yAsg rfl) ?_
  refine nil ?_
  show Code.wp _ _ _ _ _
  refine seq ?_
  refine seq ?_
  refine region ?_
  refine sv (yMove rfl) ?_
  refine sv (yLen rfl Tryz.underlying62) ?_
  refine sv (yGtr rfl rfl) ?_
  refine nil ?_
  show Code.wp _ _ _ _ _
  refine cond rfl (fun c10 => ?_) (fun c10 => ?_)
  ·
    simp only [BS, ne_eq] at c10
    refine seq ?_
    refine region ?_
    refine sv (yAsg rfl) ?_
    refine nil ?_
    show Code.wp _ _ _ _ _
    refine wp_ret (thenR ?_)
    exact retV (res1 rfl (eqI (by unfold wrongF; rw [if_pos c10]))) hS.ext
  ·
    simp only [BS, ne_eq] at c10
    have hl200 : log.length ≤ 200 := by omega
    refine skip ?_
    show Code.wp _ _ _ _ _
    refine seq ?_
    refine region ?_
    refine sv (yAsg rfl) ?_
    refine nil ?_
    show Code.wp _ _ _ _ _
    refine seq ?_
    refine seq ?_
    refine region ?_
    refine sv (yMove rfl) ?_
    refine sv (yLen rfl Tryz.underlying62) ?_
    refine sv (yMove rfl) ?_
    refine nil ?_
    show Code.wp _ _ _ _ _
    refine block ?_
    refine loop (fun f w zz => ∃ (k : Nat) (be : Int), f 0 = .pointer (some ⟨b, 0, none⟩) ∧ f 5 = .int .i64 be ∧ f 11 = .slice al log.length cl ∧ f 12 = .int .i64 (log.length : Int) ∧ f 13 = .int .i64 (k : Int) ∧ StX [] w0 w [] ∧ (k ≤ log.length) ∧ (wrongL t log 0 0 = wrongL t (log.drop k) k be) ∧ zz = log.length - k) _ ⟨_, rfl, 0, 0, rfl, rfl, rfl, rfl, rfl, hS, (Nat.zero_le _), (rfl), rfl⟩ ?_
    clear hS
    rintro f w _ ⟨k, be, h0, h5, h11, h12, h13, hS, hk, hI, rfl⟩
    refine seq ?_
    refine region ?_
    refine sv (yLss h13 h12) ?_
    refine nil ?_
    show Code.wp _ _ _ _ _
    refine seq ?_
    refine cond rfl (fun c14 => ?_) (fun c14 => ?_)
    ·
      simp only [BS, ne_eq] at c14
      obtain ⟨x, hxx, hdx⟩ := drop_of (l := log) (k := k) (by omega)
      obtain ⟨bx, ox, csx, hax, hlenx, hcsx, hRx⟩ := hlel (k) (by omega)
      obtain rfl : x = log[k] := (List.getElem?_eq_some_iff.1 hxx).2.symm
      generalize log[k] = x at hxx hdx hRx
      obtain ⟨rfl, hx1, hx2, hx3, hx4, hx5⟩ := hRx
      refine skip ?_
      show Code.wp _ _ _ _ _
      refine seq ?_
      refine block ?_
      refine seq ?_
      refine region ?_
      refine sv (yMove h13) ?_
      refine sv (yIxa h11 hax h13 Tryz.runUnderlying62 Tryz.sizeOf70 (by omega) (by omega)) ?_
      refine sv (yLdA rfl Tryz.isAgg70 Tryz.sizeOf70 (hcsx.ext hS.ext) rfl) ?_
      refine salloc hS Tryz.zeroValue70 rfl ?_; clear hS; intro b7 w hS
      refine sv (yAsg rfl) ?_
      refine sst hS rfl rfl Tryz.sizeOf70 rfl rfl rfl rfl ?_; clear hS; intro w hS
      refine nil ?_
      show Code.wp _ _ _ _ _
      refine seq ?_
      refine seq ?_
      refine region_draw mixed (by kernel_rfl) hS ?_
      refine qv (fun w hS => (fa70_0 rfl)) ?_
      refine qv (fun w hS => (yLdB rfl Tryz.isAgg3 (hS.at _) rfl)) ?_
      refine qv (fun w hS => (yMove rfl)) ?_
      refine qv (fun w hS => (yAdd rfl rfl ⟨by omega, by omega⟩)) ?_
      refine qv (fun w hS => (yNeq rfl rfl)) ?_
      refine qv (fun w hS => (yMove rfl)) ?_
      refine qg rfl rfl rfl (fun g w hS => (fa70_1 rfl)) (fun v24 g24 => ?_)
      refine qg rfl rfl rfl (fun g w hS => (yLdB (g24.1 g) Tryz.isAgg3 (hS.at _) rfl)) (fun v25 g25 => ?_)
      refine qg rfl rfl rfl (fun g w hS => (yMove h0)) (fun v26 g26 => ?_)
      refine qg rfl rfl rfl (fun g w hS => (yNil (g26.1 g))) (fun v27 g27 => ?_)
      refine qg rfl rfl rfl (fun g w hS => (fa141_0 (g27.1 g))) (fun v28 g28 => ?_)
      refine qg rfl rfl rfl (fun g w hS => (fa26_2 (g28.1 g))) (fun v29 g29 => ?_)
      refine qg rfl rfl rfl (fun g w hS => (yLdB (g29.1 g) Tryz.isAgg23 (hS.ext.get hb) rfl)) (fun v30 g30 => ?_)
      refine qg rfl rfl rfl (fun g w hS => (yLen (g30.1 g) Tryz.underlying23)) (fun v31 g31 => ?_)
      refine qg rfl rfl rfl (fun g w hS => (ySub (g31.1 g) rfl ⟨by omega, by omega⟩)) (fun v32 g32 => ?_)
      refine qgc rfl rfl rfl Tryz.call52 (fun g => (.cons (g25.1 g) (.cons rfl (.cons (g32.1 g) .nil)))) (fun g w hS => c_out) (fun v33 g33 => ?_)
      refine qv (fun w hS => (yOr rfl rfl (fun hB => (g33.1 hB)))) ?_
      refine qv (fun w hS => (yMove rfl)) ?_
      refine qg rfl rfl rfl (fun g w hS => (fa70_2 rfl)) (fun v36 g36 => ?_)
      refine qg rfl rfl rfl (fun g w hS => (yLdB (g36.1 g) Tryz.isAgg3 (hS.at _) rfl)) (fun v37 g37 => ?_)
      refine qgc rfl rfl rfl Tryz.call52 (fun g => (.cons (g37.1 g) (.cons rfl (.cons rfl .nil)))) (fun g w hS => c_out) (fun v38 g38 => ?_)
      refine qv (fun w hS => (yOr rfl rfl (fun hB => (g38.1 hB)))) ?_
      refine qv (fun w hS => (yMove rfl)) ?_
      refine qg rfl rfl rfl (fun g w hS => (fa70_3 rfl)) (fun v41 g41 => ?_)
      refine qg rfl rfl rfl (fun g w hS => (yLdB (g41.1 g) Tryz.isAgg3 (hS.at _) rfl)) (fun v42 g42 => ?_)
      refine qg rfl rfl rfl (fun g w hS => (yMove h0)) (fun v43 g43 => ?_)
      refine qg rfl rfl rfl (fun g w hS => (yNil (g43.1 g))) (fun v44 g44 => ?_)
      refine qg rfl rfl rfl (fun g w hS => (fa141_0 (g44.1 g))) (fun v45 g45 => ?_)
      refine qg rfl rfl rfl (fun g w hS => (fa26_1 (g45.1 g))) (fun v46 g46 => ?_)
      refine qg rfl rfl rfl (fun g w hS => (yLdB (g46.1 g) Tryz.isAgg22 (hS.ext.get hb) rfl)) (fun v47 g47 => ?_)
      refine qg rfl rfl rfl (fun g w hS => (yLen (g47.1 g) Tryz.underlying22)) (fun v48 g48 => ?_)
      refine qg rfl rfl rfl (fun g w hS => (ySub (g48.1 g) rfl ⟨by omega, by omega⟩)) (fun v49 g49 => ?_)
      refine qgc rfl rfl rfl Tryz.call52 (fun g => (.cons (g42.1 g) (.cons rfl (.cons (g49.1 g) .nil)))) (fun g w hS => c_out) (fun v50 g50 => ?_)
      refine qv (fun w hS => (yOr rfl rfl (fun hB => (g50.1 hB)))) ?_
      refine qv (fun w hS => (yMove rfl)) ?_
      refine qg rfl rfl rfl (fun g w hS => (fa70_4 rfl)) (fun v53 g53 => ?_)
      refine qg rfl rfl rfl (fun g w hS => (yLdB (g53.1 g) Tryz.isAgg3 (hS.at _) rfl)) (fun v54 g54 => ?_)
      refine qg rfl rfl rfl (fun g w hS => (yMove h5)) (fun v55 g55 => ?_)
      refine qgc rfl rfl rfl Tryz.call52 (fun g => (.cons (g54.1 g) (.cons (g55.1 g) (.cons rfl .nil)))) (fun g w hS => c_out) (fun v56 g56 => ?_)
      refine qv (fun w hS => (yOr rfl rfl (fun hB => (g56.1 hB)))) ?_
      clear hS; refine qnil (fun w hS => ?_)
      show Code.wp _ _ _ _ _
      refine cond rfl (fun c57 => ?_) (fun c57 => ?_)
      ·
        have c57 : badM t x k be = true := c57
        refine seq ?_
        refine region ?_
        refine sv (yAsg rfl) ?_
        refine nil ?_
        show Code.wp _ _ _ _ _
        refine wp_ret (thenR (blockR (thenR (thenR (blockR (thenR ?_))))))
        exact retV (res1 rfl (eqI (by unfold wrongF; rw [if_neg (by omega), hI, hdx, wrongL, if_pos c57]))) hS.ext
      ·
        have c57 : badM t x k be = false := c57
        refine skip ?_
        show Code.wp _ _ _ _ _
        refine region ?_
        refine sv (fa70_4 rfl) ?_
        refine sv (yLdB rfl Tryz.isAgg3 (hS.at _) rfl) ?_
        refine sv (yAsg rfl) ?_
        refine nil ?_
        show Code.wp _ _ _ _ _
        refine region ?_
        refine sv (yAdd h13 rfl ⟨by omega, by omega⟩) ?_
        refine sv (yMove rfl) ?_
        refine nil ?_
        exact ⟨_, _, rfl, ⟨k + 1, x.sent, h0, rfl, h11, h12, rfl, (hS.sub (List.nil_sublist _)), (by omega), (by rw [hI, hdx, wrongL, if_neg (by rw [c57]; decide)]; rfl), rfl⟩, by omega⟩
    ·
      simp only [BS, ne_eq] at c14
      obtain rfl : k = log.length := by omega
      refine exit ?_
      show Code.wp _ _ _ _ _
      refine seq ?_
      refine region ?_
      refine sv (yAsg rfl) ?_
      refine nil ?_
      show Code.wp _ _ _ _ _
      refine wp_ret ?_
      exact retV (res1 rfl (eqI (by unfold wrongF; rw [if_neg (by omega), hI, List.drop_length]; rfl))) hS.ext
/-- barrage/alarm.Next closure 1 -/
theorem c_Next1 {l : List Int} {c x : Int} {b g n2 : Nat} {T T2 : TypeId} {w0 : World} (hb : w0.heap[b]? = some (.cells [.slice (some ⟨g, 0, none⟩) l.length n2].toArray T (0, 0))) (hg : w0.heap[g]? = some (.cells (l.flatMap Bx.encI).toArray T2 (0, 0))) (hc : 0 ≤ c) (hx : l[c.toNat]? = some x) : CV Tryz.prog 87 #[.int .i64 c, .pointer (some ⟨b, 0, none⟩)] w0 (.bool (decide (x ≤ 0))) := by
  have hcl := (List.getElem?_eq_some_iff.1 hx).1
  refine enter Tryz.func87 rfl Tryz.ntmps87 rfl ?_
  have hS := St.start w0
  refine seq ?_
  refine region ?_
  refine sv (yAsg rfl) ?_
  refine nil ?_
  show Code.wp _ _ _ _ _
  refine seq ?_
  refine region ?_
  refine sv (yLdB rfl Tryz.isAgg34 (hS.ext.get hb) rfl) ?_
  refine sv (yMove rfl) ?_
  refine sv (yIx0 (m := c.toNat) rfl (rfl.trans (congrArg (Value.int .i64) (by omega))) Tryz.runUnderlying34 Tryz.sizeOf3 (by omega)) ?_
  refine sv (yLd rfl Tryz.isAgg3 ((flat_cells0 (enc := Bx.encI) encI_len (blk_cells (hS.ext.get hg)) hx).one)) ?_
  refine sv (yLeq rfl rfl) ?_
  refine sv (yAsg rfl) ?_
  refine nil ?_
  show Code.wp _ _ _ _ _
  refine wp_ret ?_
  exact retV (res1 rfl rfl) hS.ext
/-- barrage/alarm.Next closure 2 -/
theorem c_Next2 {t : Task} {c : Int} {b cap1 : Nat} {a1 : Option Addr} {v0 v2 v3 : Value} {T : TypeId} {w0 : World} (hb : w0.heap[b]? = some (.cells [v0, .slice a1 t.chans.length cap1, v2, v3].toArray T (0, 0))) (s1 : Sl w0 3 RChan (.slice a1 t.chans.length cap1) t.chans) (hc : 0 ≤ c ∧ c < t.chans.length) : CV Tryz.prog 88 #[.int .i64 c, .pointer (some ⟨b, 0, none⟩)] w0 (.int .i64 (chn t c).delay) := by
  obtain ⟨bc, oc, csc, hac, hlc, hcsc, hRc, -⟩ := sl_at s1 (chn_i hc)
  obtain ⟨rfl, -⟩ := hRc
  refine enter Tryz.func88 rfl Tryz.ntmps88 rfl ?_
  have hS := St.start w0
  refine seq ?_
  refine region ?_
  refine sv (yAsg rfl) ?_
  refine nil ?_
  show Code.wp _ _ _ _ _
  refine seq ?_
  refine region ?_
  refine sv (fa26_1 rfl) ?_
  refine sv (yLdB rfl Tryz.isAgg22 (hS.ext.get hb) rfl) ?_
  refine sv (yMove rfl) ?_
  refine sv (yIxa rfl hac rfl Tryz.runUnderlying22 Tryz.sizeOf41 (by omega) (by omega)) ?_
  refine sv (fa41_1 rfl) ?_
  refine sv (yLd rfl Tryz.isAgg3 ((hcsc.ext hS.ext).at (j := 1) rfl)) ?_
  refine sv (yAsg rfl) ?_
  refine nil ?_
  show Code.wp _ _ _ _ _
  refine wp_ret ?_
  exact retV (res1 rfl rfl) hS.ext
end Go.Proofs.YtmoilbakmlekbaaGreatDoor

/- part Aw16 -/
namespace Go.Proofs.YtmoilbakmlekbaaGreatDoor
open Go Bx
set_option maxHeartbeats 2000000 in
/-- barrage/alarm.Next -/
theorem c_Next {t : Task} {hv nv fv : Value} {now : Int} {log : List Msg} {lv : Value} {w0 : World} (hg : Glb w0) (h : RTask w0 [.int .i64 t.polders, hv, nv, fv] t) (hlg : Sl w0 5 RMsg lv log) : CE Tryz.prog 33 #[.agg [.int .i64 t.polders, hv, nv, fv].toArray, lv, .int .i64 now] w0 (fun u w' => ∃ v, u = .tuple #[v, .int .i64 (nextR t log now).2] ∧ St w0 w' [rowI v 70 5 (nextR t log now).1.length ((nextR t log now).1.flatMap msgC)]) := by
  obtain ⟨hv', nv', fv', he0, hpol, hsh, hsn, hsf⟩ := id h
  obtain ⟨rfl, rfl, rfl⟩ : hv' = hv ∧ nv' = nv ∧ fv' = fv := by simpa [eq_comm] using he0
  obtain ⟨a1, cap1, rfl, hcap1, hmx1, hel1⟩ := id hsh
  obtain ⟨a2, cap2, rfl, hcap2, hmx2, hel2⟩ := id hsn
  obtain ⟨a3, cap3, rfl, hcap3, hmx3, hel3⟩ := id hsf
  obtain ⟨al, cl, rfl, hlcap, hlmx, hlel⟩ := id hlg
  refine enter Tryz.func33 rfl Tryz.ntmps33 rfl ?_
  have hS := St.start w0
  refine seq ?_
  refine region ?_
  refine sbox hS rfl rfl ?_; clear hS; intro b3 w hS
  refine sv (yAsg rfl) ?_
  refine sv (yAsg rfl) ?_
  refine nil ?_
  show Code.wp _ _ _ _ _
  refine seq ?_
  refine region ?_
  refine sv (yLdBA rfl Tryz.isAgg26 Tryz.sizeOf26 (hS.at _) rfl rfl) ?_
  refine scall Tryz.call84 (.cons rfl .nil) (c_begin (hg.ext hS.ext) (h.ext hS.ext)) ?_
  rintro _ w (⟨he, rfl, hE⟩ | ⟨he, bb, b1, bz, rfl, hM⟩)
  ·
    replace hS := hS.step hE; clear hE
    refine sv (yMove rfl) ?_
    refine sv (yExt rfl rfl) ?_
    refine sv (yExt rfl rfl) ?_
    refine sv (yAsg rfl) ?_
    refine sv (yAsg rfl) ?_
    refine nil ?_
    show Code.wp _ _ _ _ _
    refine seq ?_
    refine seq ?_
    refine region ?_
    refine sv (yMove rfl) ?_
    refine sv (yEql rfl rfl) ?_
    refine nil ?_
    show Code.wp _ _ _ _ _
    refine cond rfl (fun c30 => ?_) (fun c30 => ?_)
    ·
      simp only [BS, ne_eq] at c30
      exact absurd c30 he
    ·
      simp only [BS, ne_eq] at c30
      refine skip ?_
      show Code.wp _ _ _ _ _
      refine seq ?_
      refine block ?_
      refine seq ?_
      refine region ?_
      refine sv (yMove rfl) ?_
      refine sv (yNeq rfl rfl) ?_
      refine sv (yAsg rfl) ?_
      refine nil ?_
      show Code.wp _ _ _ _ _
      refine cond rfl (fun c34 => ?_) (fun c34 => ?_)
      ·
        simp only [BS, ne_eq] at c34
        refine seq ?_
        refine region ?_
        refine sv (yMove rfl) ?_
        refine sv (yAsg rfl) ?_
        refine sv (yAsg rfl) ?_
        refine nil ?_
        show Code.wp _ _ _ _ _
        refine wp_ret (blockR (thenR ?_))
        refine retQ (res2 rfl rfl rfl) ?_
        have hE : nextE t log now = (checkA t).2.2 := by unfold nextE; rw [if_pos he]
        have hf : nextR t log now = ([], (checkA t).2.2) := by unfold nextR; rw [hE, if_pos (by first | exact he | exact c34 | decide)]
        rw [hf]
        exact ⟨_, rfl, (hS.nilrow 70 5).sub (.cons_cons _ (List.nil_sublist _))⟩
      ·
        simp only [BS, ne_eq] at c34
        exact absurd c34 he
  ·
    replace hS := hS.call hM; clear hM
    replace hS : StX [] w0 w [blk bb [.int .i64 t.polders, .slice a1 t.chans.length cap1, .slice a2 t.towns.length cap2, .slice a3 t.floods.length cap3, .slice (some ⟨b1, 0, none⟩) t.towns.length t.towns.length, .slice (some ⟨bz, 0, none⟩) t.towns.length t.towns.length] 141, blk b1 ((arrS t).flatMap spanC) 44, blk bz ((arrN t).flatMap Bx.encI) 3, blk b3 [.int .i64 t.polders, .slice a1 t.chans.length cap1, .slice a2 t.towns.length cap2, .slice a3 t.floods.length cap3] 26] := hS
    have hok := task_ok he
    refine sv (yMove rfl) ?_
    refine sv (yExt rfl rfl) ?_
    refine sv (yExt rfl rfl) ?_
    refine sv (yAsg rfl) ?_
    refine sv (yAsg rfl) ?_
    refine nil ?_
    show Code.wp _ _ _ _ _
    refine seq ?_
    refine seq ?_
    refine region ?_
    refine sv (yMove rfl) ?_
    refine sv (yEql rfl rfl) ?_
    refine nil ?_
    show Code.wp _ _ _ _ _
    refine cond rfl (fun c30 => ?_) (fun c30 => ?_)
    ·
      refine region ?_
      refine sv (yMove rfl) ?_
      refine sv (yMove rfl) ?_
      refine scall Tryz.call81 (.cons rfl (.cons rfl .nil)) (c_wrong (board_mk (hS.at bb) (h.ext hS.ext) hok (hS.at b1) (hS.at bz)) (hlg.ext RMsg.stays hS.ext)) ?_
      rintro _ w ⟨rfl, hE⟩; replace hS := hS.step hE; clear hE
      refine sv (yAsg rfl) ?_
      refine nil ?_
      show Code.wp _ _ _ _ _
      refine seqJ (n := 184) (fun f w => f 1 = .slice al log.length cl ∧ f 2 = .int .i64 now ∧ f 3 = .pointer (some ⟨b3, 0, none⟩) ∧ f 6 = .slice none 0 0 ∧ f 8 = .pointer (some ⟨bb, 0, none⟩) ∧ StX [] w0 w [blk bb [.int .i64 t.polders, .slice a1 t.chans.length cap1, .slice a2 t.towns.length cap2, .slice a3 t.floods.length cap3, .slice (some ⟨b1, 0, none⟩) t.towns.length t.towns.length, .slice (some ⟨bz, 0, none⟩) t.towns.length t.towns.length] 141, blk b1 ((arrS t).flatMap spanC) 44, blk bz ((arrN t).flatMap Bx.encI) 3, blk b3 [.int .i64 t.polders, .slice a1 t.chans.length cap1, .slice a2 t.towns.length cap2, .slice a3 t.floods.length cap3] 26] ∧ (nextE t log now = 0) ∧ (wrongF t log = 0) ∧ True) ?_ ?_
      ·
        refine block ?_
        refine seq ?_
        refine region ?_
        refine sv (yMove rfl) ?_
        refine sv (yNeq rfl rfl) ?_
        refine sv (yAsg rfl) ?_
        refine nil ?_
        show Code.wp _ _ _ _ _
        refine cond rfl (fun c34 => ?_) (fun c34 => ?_)
        ·
          simp only [BS, ne_eq] at c34
          refine seq ?_
          refine region ?_
          refine sv (yMove rfl) ?_
          refine sv (yAsg rfl) ?_
          refine sv (yAsg rfl) ?_
          refine nil ?_
          show Code.wp _ _ _ _ _
          refine wp_ret (blockR (thenR ?_))
          refine retQ (res2 rfl rfl rfl) ?_
          have hE : nextE t log now = wrongF t log := by unfold nextE; rw [if_neg (fun h => h he), if_pos c34]
          have hf : nextR t log now = ([], wrongF t log) := by unfold nextR; rw [hE, if_pos (by first | exact he | exact c34 | decide)]
          rw [hf]
          exact ⟨_, rfl, (hS.nilrow 70 5).sub (.cons_cons _ (List.nil_sublist _))⟩
        ·
          simp only [BS, ne_eq] at c34
          obtain ⟨z, bz2, oz2, csz, haz⟩ := last_at hlg
          refine seq ?_
          refine region ?_
          refine sv (yMove rfl) ?_
          refine scall Tryz.call52 (.cons rfl (.cons rfl (.cons rfl .nil))) c_out ?_
          rintro _ w ⟨rfl, hE⟩; replace hS := hS.step hE; clear hE
          refine sv (yMove rfl) ?_
          refine sg rfl rfl rfl (fun g => (yMove rfl)) (fun v42 g42 => ?_)
          refine sg rfl rfl rfl (fun g => (yLen (g42.1 g) Tryz.underlying62)) (fun v43 g43 => ?_)
          refine sg rfl rfl rfl (fun g => (yGtr (g43.1 g) rfl)) (fun v44 g44 => ?_)
          refine sg rfl rfl rfl (fun g => (yMove (g44.1 g))) (fun v45 g45 => ?_)
          refine sgg rfl rfl g45 (fun g => (yMove rfl)) (fun v46 g46 => ?_)
          refine sgg rfl rfl g45 (fun g => (yMove rfl)) (fun v47 g47 => ?_)
          refine sgg rfl rfl g45 (fun g => (yLen (g47.1 g) Tryz.underlying62)) (fun v48 g48 => ?_)
          refine sgg rfl rfl g45 (fun g => (ySub (g48.1 g) rfl ⟨by omega, by omega⟩)) (fun v49 g49 => ?_)
          refine sgg rfl rfl g45 (fun g => (yIxa (g46.1 g) (haz (of_decide_eq_true g.2)).1 (g49.1 g) Tryz.runUnderlying62 Tryz.sizeOf70 (by have := (of_decide_eq_true g.2); omega) (by have := (of_decide_eq_true g.2); omega))) (fun v50 g50 => ?_)
          refine sgg rfl rfl g45 (fun g => (fa70_4 (g50.1 g))) (fun v51 g51 => ?_)
          refine sgg rfl rfl g45 (fun g => (yLd (g51.1 g) Tryz.isAgg3 (((haz (of_decide_eq_true g.2)).2.1.ext hS.ext).at (j := 4) (haz (of_decide_eq_true g.2)).2.2.1))) (fun v52 g52 => ?_)
          refine sgg rfl rfl g45 (fun g => (yMove rfl)) (fun v53 g53 => ?_)
          refine sgg rfl rfl g45 (fun g => (yGtr (g52.1 g) (g53.1 g))) (fun v54 g54 => ?_)
          refine sg rfl rfl rfl (fun g => (yAnd (g45.1 g) (fun hB => (g54.1 ⟨g, hB⟩)) rfl)) (fun v55 g55 => ?_)
          refine sv (yOr rfl rfl (fun hB => (g55.1 hB))) ?_
          refine sv (yAsg rfl) ?_
          refine nil ?_
          show Code.wp _ _ _ _ _
          refine cond rfl (fun c38 => ?_) (fun c38 => ?_)
          ·
            have hla : lateB log now = (decide ((0 : Int) < log.length) && decide (now < z.sent)) := late_if fun h => (haz h).2.2.2
            refine seq ?_
            refine region ?_
            refine sv (yAsg rfl) ?_
            refine sv (yAsg rfl) ?_
            refine nil ?_
            show Code.wp _ _ _ _ _
            refine wp_ret (blockR (thenR ?_))
            refine retQ (res2 rfl rfl rfl) ?_
            have hE : nextE t log now = 7 := by unfold nextE; rw [if_neg (fun h => h he), if_neg (fun h => h c34), if_pos (by rw [hla]; exact c38)]
            have hf : nextR t log now = ([], 7) := by unfold nextR; rw [hE, if_pos (by first | exact he | exact c34 | decide)]
            rw [hf]
            exact ⟨_, rfl, (hS.nilrow 70 5).sub (.cons_cons _ (List.nil_sublist _))⟩
          ·
            have hla : lateB log now = (decide ((0 : Int) < log.length) && decide (now < z.sent)) := late_if fun h => (haz h).2.2.2
            refine skip ?_
            exact ⟨_, rfl, rfl, rfl, rfl, rfl, rfl, hS, (by unfold nextE; rw [if_neg (fun h => h he), if_neg (fun h => h c34), if_neg (by rw [hla, show (outB now 0 200000 || (decide ((0 : Int) < log.length) && decide (now < z.sent))) = false from c38]; decide)]), (c34), trivial⟩
      ·
        clear hS; rintro f w ⟨h1, h2, h3, h6, h8, hS, hE1, hwr, -⟩
        have hB : RBoard w bb t := board_mk (hS.at bb) (h.ext hS.ext) hok (hS.at b1) (hS.at bz)
        have hb3 : w.heap[b3]? = some (.cells [.int .i64 t.polders, .slice a1 t.chans.length cap1, .slice a2 t.towns.length cap2, .slice a3 t.floods.length cap3].toArray 26 (0, 0)) := hS.at b3
        have hE0 := hS.ext
        have s1 := hsh.ext RChan.stays hE0
        have s2 := hsn.ext RTown.stays hE0
        have sL := hlg.ext RMsg.stays hE0
        obtain ⟨w0, hwq⟩ : ∃ wq, wq = w := ⟨w, rfl⟩
        rw [← hwq] at hE0 hB hb3 s1 s2 sL
        replace hS : StX [] w0 w [] := by rw [hwq]; exact St.start w
        clear hwq
        have hn8 := hok.ntw
        have hc4 := hok.nch
        obtain ⟨hlz, hmo, -, -⟩ := wrongF_ok hwr
        refine seqJ (n := 184) (fun f w => ∃ (b60 b64 b10 : Nat), f 1 = .slice al log.length cl ∧ f 2 = .int .i64 now ∧ f 3 = .pointer (some ⟨b3, 0, none⟩) ∧ f 6 = .slice none 0 0 ∧ f 8 = .pointer (some ⟨bb, 0, none⟩) ∧ f 9 = .slice (some ⟨b60, 0, none⟩) t.towns.length t.towns.length ∧ f 10 = .pointer (some ⟨b10, 0, none⟩) ∧ StX [] w0 w [blk b10 [.slice (some ⟨b64, 0, none⟩) t.chans.length t.chans.length] 34, blk b60 ((List.replicate t.towns.length [.int .i64 0]).flatten) 3, blk b64 ((List.replicate t.chans.length [.int .i64 0]).flatten) 3] ∧ True) ?_ ?_
        ·
          refine region_mix (fun w => StX [] w0 w []) 11 mixed hS ?_
          clear hS; intro w hS
          refine f_step 0 (by kernel_rfl) rfl (fun c a a' w h => by obtain ⟨_, v, hv, _⟩ := h; cases hv) (hS.sub (List.nil_sublist _)) (fun w hS => (fa26_2 h3)) ?_
          refine f_step 1 (by kernel_rfl) rfl (fun c a a' w h => by obtain ⟨_, v, hv, _⟩ := h; cases hv) (hS.sub (List.nil_sublist _)) (fun w hS => (yLdB rfl Tryz.isAgg23 (hS.ext.get hb3) rfl)) ?_
          refine f_step 2 (by kernel_rfl) rfl (fun c a a' w h => by obtain ⟨_, v, hv, _⟩ := h; cases hv) (hS.sub (List.nil_sublist _)) (fun w hS => (yLen rfl Tryz.underlying23)) ?_
          refine f_step 4 (by kernel_rfl) rfl (fun c a a' w h => by obtain ⟨_, v, hv, _⟩ := h; cases hv) (hS.sub (List.nil_sublist _)) (fun w hS => (fa26_1 h3)) ?_
          refine f_step 5 (by kernel_rfl) rfl (fun c a a' w h => by obtain ⟨_, v, hv, _⟩ := h; cases hv) (hS.sub (List.nil_sublist _)) (fun w hS => (yLdB rfl Tryz.isAgg22 (hS.ext.get hb3) rfl)) ?_
          refine f_step 6 (by kernel_rfl) rfl (fun c a a' w h => by obtain ⟨_, v, hv, _⟩ := h; cases hv) (hS.sub (List.nil_sublist _)) (fun w hS => (yLen rfl Tryz.underlying22)) ?_
          show wpA _ _ _ _ _ _ _ _ _ _
          refine a_step (i := 3) (is := [7, 8]) (by kernel_rfl) ⟨?_, ?_, ?_, trivial⟩
          ·
            refine ⟨_, rfl, ?_⟩
            refine smake (bytes := 8) (zs := [.int .i64 0])  hS rfl rfl Tryz.underlying34 ti3 rfl rfl rfl rfl rfl (by omega) (by omega) ?_; clear hS; intro b60 w hS
            refine nil ?_
            refine ⟨fun _ => (hS.sub (List.nil_sublist _)), ?_⟩
            show wpA _ _ _ _ _ _ _ _ _ _
            show wpA _ _ _ _ _ _ _ _ _ _
            refine a_step (i := 7) (is := [8]) (by kernel_rfl) ⟨?_, ?_, trivial⟩
            ·
              refine ⟨_, rfl, ?_⟩
              refine smake (bytes := 8) (zs := [.int .i64 0])  hS rfl rfl Tryz.underlying34 ti3 rfl rfl rfl rfl rfl (by omega) (by omega) ?_; clear hS; intro b64 w hS
              refine nil ?_
              refine ⟨fun _ => (hS.sub (List.nil_sublist _)), ?_⟩
              show wpA _ _ _ _ _ _ _ _ _ _
              show wpA _ _ _ _ _ _ _ _ _ _
              refine a_step (i := 8) (is := []) (by kernel_rfl) ⟨?_, trivial⟩
              refine ⟨_, rfl, ?_⟩
              refine salloc hS Tryz.zeroValue34 rfl ?_; clear hS; intro b10 w hS
              refine nil ?_
              refine ⟨fun _ => (hS.sub (List.nil_sublist _)), ?_⟩
              show wpA _ _ _ _ _ _ _ _ _ _
              refine f_step 9 (by kernel_rfl) rfl (fun c a a' w h => by obtain ⟨_, v, hv, _⟩ := h; cases hv) (hS.sub (List.nil_sublist _)) (fun w hS => (yAsg rfl)) ?_
              show wpA _ _ _ _ _ _ _ _ _ _
              refine a_step (i := 10) (is := []) (by kernel_rfl) ⟨?_, trivial⟩
              refine ⟨_, rfl, ?_⟩
              refine sst hS rfl rfl Tryz.sizeOf34 rfl rfl rfl rfl ?_; clear hS; intro w hS
              refine nil ?_
              refine ⟨fun _ => (hS.sub (List.nil_sublist _)), ?_⟩
              show wpA _ _ _ _ _ _ _ _ _ _
              refine a_end (by kernel_rfl) ?_
              exact ⟨_, rfl, b60, b64, b10, h1, h2, h3, h6, h8, rfl, rfl, (by first | exact hS | exact hS.perm (List.Perm.swap _ _ _) | exact hS.perm ((List.Perm.swap _ _ _).cons _) | exact hS.perm ((List.Perm.swap _ _ _).trans ((List.Perm.swap _ _ _).cons _)) | exact hS.perm (((List.Perm.swap _ _ _).cons _).trans (List.Perm.swap _ _ _)) | exact hS.perm ((List.Perm.swap _ _ _).trans (((List.Perm.swap _ _ _).cons _).trans (List.Perm.swap _ _ _)))), trivial⟩
            ·
              refine ⟨_, rfl, ?_⟩
              refine salloc hS Tryz.zeroValue34 rfl ?_; clear hS; intro b10 w hS
              refine nil ?_
              refine ⟨fun _ => (hS.sub (List.nil_sublist _)), ?_⟩
              show wpA _ _ _ _ _ _ _ _ _ _
              refine f_step 9 (by kernel_rfl) rfl (fun c a a' w h => by obtain ⟨_, v, hv, _⟩ := h; cases hv) (hS.sub (List.nil_sublist _)) (fun w hS => (yAsg rfl)) ?_
              show wpA _ _ _ _ _ _ _ _ _ _
              refine a_step (i := 7) (is := []) (by kernel_rfl) ⟨?_, trivial⟩
              refine ⟨_, rfl, ?_⟩
              refine smake (bytes := 8) (zs := [.int .i64 0])  hS rfl rfl Tryz.underlying34 ti3 rfl rfl rfl rfl rfl (by omega) (by omega) ?_; clear hS; intro b64 w hS
              refine nil ?_
              refine ⟨fun _ => (hS.sub (List.nil_sublist _)), ?_⟩
              show wpA _ _ _ _ _ _ _ _ _ _
              show wpA _ _ _ _ _ _ _ _ _ _
              refine a_step (i := 10) (is := []) (by kernel_rfl) ⟨?_, trivial⟩
              refine ⟨_, rfl, ?_⟩
              refine sst hS rfl rfl Tryz.sizeOf34 rfl rfl rfl rfl ?_; clear hS; intro w hS
              refine nil ?_
              refine ⟨fun _ => (hS.sub (List.nil_sublist _)), ?_⟩
              show wpA _ _ _ _ _ _ _ _ _ _
              refine a_end (by kernel_rfl) ?_
              exact ⟨_, rfl, b60, b64, b10, h1, h2, h3, h6, h8, rfl, rfl, (by first | exact hS | exact hS.perm (List.Perm.swap _ _ _) | exact hS.perm ((List.Perm.swap _ _ _).cons _) | exact hS.perm ((List.Perm.swap _ _ _).trans ((List.Perm.swap _ _ _).cons _)) | exact hS.perm (((List.Perm.swap _ _ _).cons _).trans (List.Perm.swap _ _ _)) | exact hS.perm ((List.Perm.swap _ _ _).trans (((List.Perm.swap _ _ _).cons _).trans (List.Perm.swap _ _ _)))), trivial⟩
          ·
            refine ⟨_, rfl, ?_⟩
            refine smake (bytes := 8) (zs := [.int .i64 0])  hS rfl rfl Tryz.underlying34 ti3 rfl rfl rfl rfl rfl (by omega) (by omega) ?_; clear hS; intro b64 w hS
            refine nil ?_
            refine ⟨fun _ => (hS.sub (List.nil_sublist _)), ?_⟩
            show wpA _ _ _ _ _ _ _ _ _ _
            show wpA _ _ _ _ _ _ _ _ _ _
            refine a_step (i := 3) (is := [8]) (by kernel_rfl) ⟨?_, ?_, trivial⟩
            ·
              refine ⟨_, rfl, ?_⟩
              refine smake (bytes := 8) (zs := [.int .i64 0])  hS rfl rfl Tryz.underlying34 ti3 rfl rfl rfl rfl rfl (by omega) (by omega) ?_; clear hS; intro b60 w hS
              refine nil ?_
              refine ⟨fun _ => (hS.sub (List.nil_sublist _)), ?_⟩
              show wpA _ _ _ _ _ _ _ _ _ _
              show wpA _ _ _ _ _ _ _ _ _ _
              refine a_step (i := 8) (is := []) (by kernel_rfl) ⟨?_, trivial⟩
              refine ⟨_, rfl, ?_⟩
              refine salloc hS Tryz.zeroValue34 rfl ?_; clear hS; intro b10 w hS
              refine nil ?_
              refine ⟨fun _ => (hS.sub (List.nil_sublist _)), ?_⟩
              show wpA _ _ _ _ _ _ _ _ _ _
              refine f_step 9 (by kernel_rfl) rfl (fun c a a' w h => by obtain ⟨_, v, hv, _⟩ := h; cases hv) (hS.sub (List.nil_sublist _)) (fun w hS => (yAsg rfl)) ?_
              show wpA _ _ _ _ _ _ _ _ _ _
              refine a_step (i := 10) (is := []) (by kernel_rfl) ⟨?_, trivial⟩
              refine ⟨_, rfl, ?_⟩
              refine sst hS rfl rfl Tryz.sizeOf34 rfl rfl rfl rfl ?_; clear hS; intro w hS
              refine nil ?_
              refine ⟨fun _ => (hS.sub (List.nil_sublist _)), ?_⟩
              show wpA _ _ _ _ _ _ _ _ _ _
              refine a_end (by kernel_rfl) ?_
              exact ⟨_, rfl, b60, b64, b10, h1, h2, h3, h6, h8, rfl, rfl, (by first | exact hS | exact hS.perm (List.Perm.swap _ _ _) | exact hS.perm ((List.Perm.swap _ _ _).cons _) | exact hS.perm ((List.Perm.swap _ _ _).trans ((List.Perm.swap _ _ _).cons _)) | exact hS.perm (((List.Perm.swap _ _ _).cons _).trans (List.Perm.swap _ _ _)) | exact hS.perm ((List.Perm.swap _ _ _).trans (((List.Perm.swap _ _ _).cons _).trans (List.Perm.swap _ _ _)))), trivial⟩
            ·
              refine ⟨_, rfl, ?_⟩
              refine salloc hS Tryz.zeroValue34 rfl ?_; clear hS; intro b10 w hS
              refine nil ?_
              refine ⟨fun _ => (hS.sub (List.nil_sublist _)), ?_⟩
              show wpA _ _ _ _ _ _ _ _ _ _
              show wpA _ _ _ _ _ _ _ _ _ _
              refine a_step (i := 3) (is := []) (by kernel_rfl) ⟨?_, trivial⟩
              refine ⟨_, rfl, ?_⟩
              refine smake (bytes := 8) (zs := [.int .i64 0])  hS rfl rfl Tryz.underlying34 ti3 rfl rfl rfl rfl rfl (by omega) (by omega) ?_; clear hS; intro b60 w hS
              refine nil ?_
              refine ⟨fun _ => (hS.sub (List.nil_sublist _)), ?_⟩
              show wpA _ _ _ _ _ _ _ _ _ _
              refine f_step 9 (by kernel_rfl) rfl (fun c a a' w h => by obtain ⟨_, v, hv, _⟩ := h; cases hv) (hS.sub (List.nil_sublist _)) (fun w hS => (yAsg rfl)) ?_
              show wpA _ _ _ _ _ _ _ _ _ _
              refine a_step (i := 10) (is := []) (by kernel_rfl) ⟨?_, trivial⟩
              refine ⟨_, rfl, ?_⟩
              refine sst hS rfl rfl Tryz.sizeOf34 rfl rfl rfl rfl ?_; clear hS; intro w hS
              refine nil ?_
              refine ⟨fun _ => (hS.sub (List.nil_sublist _)), ?_⟩
              show wpA _ _ _ _ _ _ _ _ _ _
              refine a_end (by kernel_rfl) ?_
              exact ⟨_, rfl, b60, b64, b10, h1, h2, h3, h6, h8, rfl, rfl, (by first | exact hS | exact hS.perm (List.Perm.swap _ _ _) | exact hS.perm ((List.Perm.swap _ _ _).cons _) | exact hS.perm ((List.Perm.swap _ _ _).trans ((List.Perm.swap _ _ _).cons _)) | exact hS.perm (((List.Perm.swap _ _ _).cons _).trans (List.Perm.swap _ _ _)) | exact hS.perm ((List.Perm.swap _ _ _).trans (((List.Perm.swap _ _ _).cons _).trans (List.Perm.swap _ _ _)))), trivial⟩
          ·
            refine ⟨_, rfl, ?_⟩
            refine salloc hS Tryz.zeroValue34 rfl ?_; clear hS; intro b10 w hS
            refine nil ?_
            refine ⟨fun _ => (hS.sub (List.nil_sublist _)), ?_⟩
            show wpA _ _ _ _ _ _ _ _ _ _
            show wpA _ _ _ _ _ _ _ _ _ _
            refine a_step (i := 3) (is := [7]) (by kernel_rfl) ⟨?_, ?_, trivial⟩
            ·
              refine ⟨_, rfl, ?_⟩
              refine smake (bytes := 8) (zs := [.int .i64 0])  hS rfl rfl Tryz.underlying34 ti3 rfl rfl rfl rfl rfl (by omega) (by omega) ?_; clear hS; intro b60 w hS
              refine nil ?_
              refine ⟨fun _ => (hS.sub (List.nil_sublist _)), ?_⟩
              show wpA _ _ _ _ _ _ _ _ _ _
              refine f_step 9 (by kernel_rfl) rfl (fun c a a' w h => by obtain ⟨_, v, hv, _⟩ := h; cases hv) (hS.sub (List.nil_sublist _)) (fun w hS => (yAsg rfl)) ?_
              show wpA _ _ _ _ _ _ _ _ _ _
              refine a_step (i := 7) (is := []) (by kernel_rfl) ⟨?_, trivial⟩
              refine ⟨_, rfl, ?_⟩
              refine smake (bytes := 8) (zs := [.int .i64 0])  hS rfl rfl Tryz.underlying34 ti3 rfl rfl rfl rfl rfl (by omega) (by omega) ?_; clear hS; intro b64 w hS
              refine nil ?_
              refine ⟨fun _ => (hS.sub (List.nil_sublist _)), ?_⟩
              show wpA _ _ _ _ _ _ _ _ _ _
              show wpA _ _ _ _ _ _ _ _ _ _
              refine a_step (i := 10) (is := []) (by kernel_rfl) ⟨?_, trivial⟩
              refine ⟨_, rfl, ?_⟩
              refine sst hS rfl rfl Tryz.sizeOf34 rfl rfl rfl rfl ?_; clear hS; intro w hS
              refine nil ?_
              refine ⟨fun _ => (hS.sub (List.nil_sublist _)), ?_⟩
              show wpA _ _ _ _ _ _ _ _ _ _
              refine a_end (by kernel_rfl) ?_
              exact ⟨_, rfl, b60, b64, b10, h1, h2, h3, h6, h8, rfl, rfl, (by first | exact hS | exact hS.perm (List.Perm.swap _ _ _) | exact hS.perm ((List.Perm.swap _ _ _).cons _) | exact hS.perm ((List.Perm.swap _ _ _).trans ((List.Perm.swap _ _ _).cons _)) | exact hS.perm (((List.Perm.swap _ _ _).cons _).trans (List.Perm.swap _ _ _)) | exact hS.perm ((List.Perm.swap _ _ _).trans (((List.Perm.swap _ _ _).cons _).trans (List.Perm.swap _ _ _)))), trivial⟩
            ·
              refine ⟨_, rfl, ?_⟩
              refine smake (bytes := 8) (zs := [.int .i64 0])  hS rfl rfl Tryz.underlying34 ti3 rfl rfl rfl rfl rfl (by omega) (by omega) ?_; clear hS; intro b64 w hS
              refine nil ?_
              refine ⟨fun _ => (hS.sub (List.nil_sublist _)), ?_⟩
              show wpA _ _ _ _ _ _ _ _ _ _
              show wpA _ _ _ _ _ _ _ _ _ _
              refine a_step (i := 3) (is := []) (by kernel_rfl) ⟨?_, trivial⟩
              refine ⟨_, rfl, ?_⟩
              refine smake (bytes := 8) (zs := [.int .i64 0])  hS rfl rfl Tryz.underlying34 ti3 rfl rfl rfl rfl rfl (by omega) (by omega) ?_; clear hS; intro b60 w hS
              refine nil ?_
              refine ⟨fun _ => (hS.sub (List.nil_sublist _)), ?_⟩
              show wpA _ _ _ _ _ _ _ _ _ _
              refine f_step 9 (by kernel_rfl) rfl (fun c a a' w h => by obtain ⟨_, v, hv, _⟩ := h; cases hv) (hS.sub (List.nil_sublist _)) (fun w hS => (yAsg rfl)) ?_
              show wpA _ _ _ _ _ _ _ _ _ _
              refine a_step (i := 10) (is := []) (by kernel_rfl) ⟨?_, trivial⟩
              refine ⟨_, rfl, ?_⟩
              refine sst hS rfl rfl Tryz.sizeOf34 rfl rfl rfl rfl ?_; clear hS; intro w hS
              refine nil ?_
              refine ⟨fun _ => (hS.sub (List.nil_sublist _)), ?_⟩
              show wpA _ _ _ _ _ _ _ _ _ _
              refine a_end (by kernel_rfl) ?_
              exact ⟨_, rfl, b60, b64, b10, h1, h2, h3, h6, h8, rfl, rfl, (by first | exact hS | exact hS.perm (List.Perm.swap _ _ _) | exact hS.perm ((List.Perm.swap _ _ _).cons _) | exact hS.perm ((List.Perm.swap _ _ _).trans ((List.Perm.swap _ _ _).cons _)) | exact hS.perm (((List.Perm.swap _ _ _).cons _).trans (List.Perm.swap _ _ _)) | exact hS.perm ((List.Perm.swap _ _ _).trans (((List.Perm.swap _ _ _).cons _).trans (List.Perm.swap _ _ _)))), trivial⟩
        ·
          clear hS; rintro f w ⟨b60, b64, b10, h1, h2, h3, h6, h8, h9, h10, hS, -⟩
          refine seq ?_
          refine seq ?_
          refine region ?_
          refine sv (fa26_1 h3) ?_
          refine sv (yLdB rfl Tryz.isAgg22 (hS.ext.get hb3) rfl) ?_
          refine sv (yLen rfl Tryz.underlying22) ?_
          refine sv (yMove rfl) ?_
          refine nil ?_
          show Code.wp _ _ _ _ _
          refine block ?_
          refine loop (fun f w zz => ∃ (k : Nat) (rs : List Int), f 1 = .slice al log.length cl ∧ f 2 = .int .i64 now ∧ f 3 = .pointer (some ⟨b3, 0, none⟩) ∧ f 6 = .slice none 0 0 ∧ f 8 = .pointer (some ⟨bb, 0, none⟩) ∧ f 9 = .slice (some ⟨b60, 0, none⟩) t.towns.length t.towns.length ∧ f 10 = .pointer (some ⟨b10, 0, none⟩) ∧ f 66 = .slice a1 t.chans.length cap1 ∧ f 67 = .int .i64 (t.chans.length : Int) ∧ f 68 = .int .i64 (k : Int) ∧ StX [] w0 w [blk b10 [.slice (some ⟨b64, 0, none⟩) t.chans.length t.chans.length] 34, blk b60 ((List.replicate t.towns.length [.int .i64 0]).flatten) 3, blk b64 ((rs).flatMap Bx.encI) 3] ∧ (k ≤ t.chans.length) ∧ (rs.length = t.chans.length) ∧ (∀ j, j < t.chans.length → rs[j]? = some (if j < k then (chn t (j : Int)).room else 0)) ∧ zz = t.chans.length - k) _ ⟨_, rfl, 0, List.replicate t.chans.length 0, h1, h2, h3, h6, h8, h9, h10, rfl, rfl, rfl, (by rw [← flat_rep (enc := Bx.encI) (z := 0) (zs := [.int .i64 0]) rfl]; exact hS), (Nat.zero_le _), (by simp), (fun j hj => by simp [hj]), rfl⟩ ?_
          clear hS
          rintro f w _ ⟨k, rs, h1, h2, h3, h6, h8, h9, h10, h66, h67, h68, hS, hk, hrl, hR, rfl⟩
          refine seq ?_
          refine region ?_
          refine sv (yLss h68 h67) ?_
          refine nil ?_
          show Code.wp _ _ _ _ _
          refine seq ?_
          refine cond rfl (fun c69 => ?_) (fun c69 => ?_)
          ·
            simp only [BS, ne_eq] at c69
            have hc : 0 ≤ (k : Int) ∧ (k : Int) < t.chans.length := by omega
            obtain ⟨bc, oc, csc, hac, hlc, hcsc, hRc, -⟩ := sl_at s1 (chn_i (t := t) hc)
            obtain ⟨rfl, -⟩ := hRc
            have hco := chan_ok hok hc
            refine skip ?_
            show Code.wp _ _ _ _ _
            refine seq ?_
            refine block ?_
            refine seq ?_
            refine region ?_
            refine sv (yMove h68) ?_
            refine sv (yIxa h66 hac h68 Tryz.runUnderlying22 Tryz.sizeOf41 (by omega) (by omega)) ?_
            refine sv (yLdA rfl Tryz.isAgg41 Tryz.sizeOf41 (hcsc.ext hS.ext) rfl) ?_
            refine salloc hS Tryz.zeroValue41 rfl ?_; clear hS; intro b12 w hS
            refine sv (yAsg rfl) ?_
            refine sst hS rfl rfl Tryz.sizeOf41 rfl rfl rfl rfl ?_; clear hS; intro w hS
            refine nil ?_
            show Code.wp _ _ _ _ _
            refine region ?_
            refine sv (yLdB h10 Tryz.isAgg34 (hS.at _) rfl) ?_
            refine sv (yMove rfl) ?_
            refine sv (fa41_2 rfl) ?_
            refine sv (yLdB rfl Tryz.isAgg3 (hS.at _) rfl) ?_
            refine sv (yIx0 (m := k) rfl (rfl) Tryz.runUnderlying34 Tryz.sizeOf3 (by omega)) ?_
            refine sst hS rfl rfl Tryz.sizeOf3 rfl rfl (by rw [Nat.ble_eq, flat_len encI_len]; simp; omega) rfl ?_; clear hS; intro w hS
            refine nil ?_
            show Code.wp _ _ _ _ _
            refine region ?_
            refine sv (yAdd h68 rfl ⟨by omega, by omega⟩) ?_
            refine sv (yMove rfl) ?_
            refine nil ?_
            exact ⟨_, _, rfl, ⟨k + 1, rs.set k (chn t (k : Int)).room, h1, h2, h3, h6, h8, h9, h10, h66, h67, rfl, (by rw [← splice_enc encI_len rs k _ (by omega)]; exact hS.sub (.cons _ (List.Sublist.refl _))), (by omega), (by simp [hrl]), (set_nth (A := fun j => (chn t (j : Int)).room) hrl (by omega) hR), rfl⟩, by omega⟩
          ·
            simp only [BS, ne_eq] at c69
            obtain rfl : k = t.chans.length := by omega
            refine exit ?_
            show Code.wp _ _ _ _ _
            refine seq ?_
            refine seq ?_
            refine region ?_
            refine sv (yMove h1) ?_
            refine sv (yLen rfl Tryz.underlying62) ?_
            refine sv (yMove rfl) ?_
            refine nil ?_
            show Code.wp _ _ _ _ _
            refine block ?_
            refine loop (fun f w zz => ∃ (k : Nat) (ls rs : List Int), f 1 = .slice al log.length cl ∧ f 2 = .int .i64 now ∧ f 3 = .pointer (some ⟨b3, 0, none⟩) ∧ f 6 = .slice none 0 0 ∧ f 8 = .pointer (some ⟨bb, 0, none⟩) ∧ f 9 = .slice (some ⟨b60, 0, none⟩) t.towns.length t.towns.length ∧ f 10 = .pointer (some ⟨b10, 0, none⟩) ∧ f 79 = .slice al log.length cl ∧ f 80 = .int .i64 (log.length : Int) ∧ f 81 = .int .i64 (k : Int) ∧ StX [] w0 w [blk b10 [.slice (some ⟨b64, 0, none⟩) t.chans.length t.chans.length] 34, blk b60 ((ls).flatMap Bx.encI) 3, blk b64 ((rs).flatMap Bx.encI) 3] ∧ (k ≤ log.length) ∧ (ls.length = t.towns.length) ∧ (rs.length = t.chans.length) ∧ (∀ j : Nat, j < t.towns.length → ls[j]? = some (lastF (log.take k) (j : Int))) ∧ (∀ j : Nat, j < t.chans.length → rs[j]? = some (roomF t (log.take k) now (j : Int))) ∧ zz = log.length - k) _ ⟨_, rfl, 0, List.replicate t.towns.length 0, rs, h1, h2, h3, h6, h8, h9, h10, rfl, rfl, rfl, (by rw [← flat_rep (enc := Bx.encI) (z := 0) (zs := [.int .i64 0]) rfl]; exact hS), (Nat.zero_le _), (by simp), (hrl), (fun j hj => by rw [List.getElem?_replicate, if_pos hj]; rfl), (fun j hj => by rw [hR j hj, if_pos hj, List.take_zero, roomF_nil]), rfl⟩ ?_
            clear hS
            rintro f w _ ⟨k, ls, rs, h1, h2, h3, h6, h8, h9, h10, h79, h80, h81, hS, hk, hll, hrl, hL, hR, rfl⟩
            refine seq ?_
            refine region ?_
            refine sv (yLss h81 h80) ?_
            refine nil ?_
            show Code.wp _ _ _ _ _
            refine seq ?_
            refine cond rfl (fun c82 => ?_) (fun c82 => ?_)
            ·
              simp only [BS, ne_eq] at c82
              obtain ⟨x, hx, -⟩ := drop_of (l := log) (k := k) (by omega)
              obtain ⟨bx, ox, csx, hax, hlx, hcsx, hRx, -⟩ := sl_at sL hx
              obtain ⟨rfl, -⟩ := hRx
              have hxm := hmo x (List.mem_of_getElem? hx)
              have hxt := hxm.town
              have hxc := hxm.chan
              have hRc := at_i (f := fun j => roomF t (log.take k) now j) hR hxc
              have hrb := roomF_bd hok hxc (log.take k) now
              have htk : (log.take k).length ≤ k := by simp; omega
              refine skip ?_
              show Code.wp _ _ _ _ _
              refine seq ?_
              refine block ?_
              refine seq ?_
              refine region ?_
              refine sv (yIxa h79 hax h81 Tryz.runUnderlying62 Tryz.sizeOf70 (by omega) (by omega)) ?_
              refine sv (yLdA rfl Tryz.isAgg70 Tryz.sizeOf70 (hcsx.ext hS.ext) rfl) ?_
              refine salloc hS Tryz.zeroValue70 rfl ?_; clear hS; intro b14 w hS
              refine sst hS rfl rfl Tryz.sizeOf70 rfl rfl rfl rfl ?_; clear hS; intro w hS
              refine nil ?_
              show Code.wp _ _ _ _ _
              refine seq ?_
              refine region ?_
              refine sv (yMove h9) ?_
              refine sv (fa70_1 rfl) ?_
              refine sv (yLdB rfl Tryz.isAgg3 (hS.at _) rfl) ?_
              refine sv (fa70_2 rfl) ?_
              refine sv (yLdB rfl Tryz.isAgg3 (hS.at _) rfl) ?_
              refine sv (yIx0 (m := x.town.toNat) rfl (rfl.trans (congrArg (Value.int .i64) (by omega))) Tryz.runUnderlying34 Tryz.sizeOf3 (by omega)) ?_
              refine sst hS rfl rfl Tryz.sizeOf3 rfl rfl (by rw [Nat.ble_eq, flat_len encI_len]; simp; omega) rfl ?_; clear hS; intro w hS
              refine nil ?_
              show Code.wp _ _ _ _ _
              refine seq ?_
              refine region ?_
              refine sv (fa70_4 rfl) ?_
              refine sv (yLdB rfl Tryz.isAgg3 (hS.at _) rfl) ?_
              refine sv (yMove h2) ?_
              refine sv (yEql rfl rfl) ?_
              refine nil ?_
              show Code.wp _ _ _ _ _
              refine cond rfl (fun c94 => ?_) (fun c94 => ?_)
              ·
                simp only [BS, ne_eq] at c94
                refine region ?_
                refine sv (yLdB h10 Tryz.isAgg34 (hS.at _) rfl) ?_
                refine sv (fa70_3 rfl) ?_
                refine sv (yLdB rfl Tryz.isAgg3 (hS.at _) rfl) ?_
                refine sv (yIx0 (m := x.channel.toNat) rfl (rfl.trans (congrArg (Value.int .i64) (by omega))) Tryz.runUnderlying34 Tryz.sizeOf3 (by omega)) ?_
                refine sv (yLd rfl Tryz.isAgg3 ((flat_cells0 (enc := Bx.encI) encI_len (blk_cells (hS.at b64)) hRc).one)) ?_
                refine sv (ySub rfl rfl ⟨by omega, by omega⟩) ?_
                refine sv (yIx0 (m := x.channel.toNat) rfl (rfl.trans (congrArg (Value.int .i64) (by omega))) Tryz.runUnderlying34 Tryz.sizeOf3 (by omega)) ?_
                refine sst hS rfl rfl Tryz.sizeOf3 rfl rfl (by rw [Nat.ble_eq, flat_len encI_len]; simp; omega) rfl ?_; clear hS; intro w hS
                refine nil ?_
                show Code.wp _ _ _ _ _
                refine region ?_
                refine sv (yAdd h81 rfl ⟨by omega, by omega⟩) ?_
                refine sv (yMove rfl) ?_
                refine nil ?_
                exact ⟨_, _, rfl, ⟨k + 1, ls.set x.town.toNat x.stage, rs.set x.channel.toNat (roomF t (log.take k) now x.channel - 1), h1, h2, h3, h6, h8, h9, h10, h79, h80, rfl, (by rw [← splice_enc encI_len rs x.channel.toNat _ (by omega), ← splice_enc encI_len ls x.town.toNat _ (by omega)]; exact hS.sub (.cons _ (List.Sublist.refl _))), (by omega), (by simp [hll]), (by simp [hrl]), (last_step hx hll hxt hL), (by rw [take_snoc hx]; exact room_step hrl hxc c94 hR), rfl⟩, by omega⟩
              ·
                simp only [BS, ne_eq] at c94
                refine skip ?_
                show Code.wp _ _ _ _ _
                refine region ?_
                refine sv (yAdd h81 rfl ⟨by omega, by omega⟩) ?_
                refine sv (yMove rfl) ?_
                refine nil ?_
                exact ⟨_, _, rfl, ⟨k + 1, ls.set x.town.toNat x.stage, rs, h1, h2, h3, h6, h8, h9, h10, h79, h80, rfl, (by rw [← splice_enc encI_len ls x.town.toNat _ (by omega)]; exact hS.sub (.cons _ (List.Sublist.refl _))), (by omega), (by simp [hll]), (hrl), (last_step hx hll hxt hL), (by rw [take_snoc hx]; exact room_keep c94 hR), rfl⟩, by omega⟩
            ·
              simp only [BS, ne_eq] at c82
              obtain rfl : k = log.length := by omega
              rw [List.take_length] at hL hR
              refine exit ?_
              show Code.wp _ _ _ _ _
              refine seq ?_
              refine region ?_
              refine sv (yAsg rfl) ?_
              refine sv (yAsg rfl) ?_
              refine nil ?_
              show Code.wp _ _ _ _ _
              refine seq ?_
              refine seq ?_
              refine region ?_
              refine sv (yMove h9) ?_
              refine sv (yLen rfl Tryz.underlying34) ?_
              refine sv (yMove rfl) ?_
              refine nil ?_
              show Code.wp _ _ _ _ _
              refine block ?_
              refine loop (fun f w zz => ∃ (k : Nat) (vu vd : Value), f 1 = .slice al log.length cl ∧ f 2 = .int .i64 now ∧ f 3 = .pointer (some ⟨b3, 0, none⟩) ∧ f 6 = .slice none 0 0 ∧ f 8 = .pointer (some ⟨bb, 0, none⟩) ∧ f 9 = .slice (some ⟨b60, 0, none⟩) t.towns.length t.towns.length ∧ f 10 = .pointer (some ⟨b10, 0, none⟩) ∧ f 15 = vu ∧ f 16 = vd ∧ f 103 = .slice (some ⟨b60, 0, none⟩) t.towns.length t.towns.length ∧ f 104 = .int .i64 (t.towns.length : Int) ∧ f 105 = .int .i64 (k : Int) ∧ StX [] w0 w [rowI vu 3 1 (upK t log now k).length ((upK t log now k).flatMap Bx.encI), rowI vd 3 1 (downK t log now k).length ((downK t log now k).flatMap Bx.encI), blk b10 [.slice (some ⟨b64, 0, none⟩) t.chans.length t.chans.length] 34, blk b60 ((ls).flatMap Bx.encI) 3, blk b64 ((rs).flatMap Bx.encI) 3] ∧ (k ≤ t.towns.length) ∧ zz = t.towns.length - k) _ ⟨_, rfl, 0, _, _, h1, h2, h3, h6, h8, h9, h10, rfl, rfl, rfl, rfl, rfl, ((hS.nilrow 3 1).nilrow 3 1), (Nat.zero_le _), rfl⟩ ?_
              clear hS
              rintro f w _ ⟨k, vu, vd, h1, h2, h3, h6, h8, h9, h10, h15, h16, h103, h104, h105, hS, hk, rfl⟩
              refine seq ?_
              refine region ?_
              refine sv (yLss h105 h104) ?_
              refine nil ?_
              show Code.wp _ _ _ _ _
              refine seq ?_
              refine cond rfl (fun c106 => ?_) (fun c106 => ?_)
              ·
                simp only [BS, ne_eq] at c106
                have hkn : k < t.towns.length := by omega
                have hi : 0 ≤ (k : Int) ∧ (k : Int) < t.towns.length := by omega
                have hul := upK_len t log now k
                have hdl := downK_len t log now k
                refine skip ?_
                show Code.wp _ _ _ _ _
                refine seq ?_
                refine block ?_
                refine seq ?_
                refine region ?_
                refine sv (yMove h105) ?_
                refine sv (yIx0 (m := k) h103 (h105) Tryz.runUnderlying34 Tryz.sizeOf3 (by omega)) ?_
                refine sv (yLd rfl Tryz.isAgg3 ((flat_cells0 (enc := Bx.encI) encI_len (blk_cells (hS.at b60)) (hL k hkn)).one)) ?_
                refine sv (yAsg rfl) ?_
                refine sv (yAsg rfl) ?_
                refine nil ?_
                show Code.wp _ _ _ _ _
                refine seq ?_
                refine region ?_
                refine sv (yMove h8) ?_
                refine sv (yMove rfl) ?_
                refine sv (yMove h2) ?_
                refine scall Tryz.call72 (.cons rfl (.cons rfl (.cons rfl .nil))) (c_stage (hB.ext hS.ext) hi) ?_
                rintro _ w ⟨rfl, hE⟩; replace hS := hS.step hE; clear hE
                refine sv (yAsg rfl) ?_
                refine nil ?_
                show Code.wp _ _ _ _ _
                refine block ?_
                refine seq ?_
                refine region ?_
                refine sv (yMove rfl) ?_
                refine sv (yMove rfl) ?_
                refine sv (yGtr rfl rfl) ?_
                refine sv (yAsg rfl) ?_
                refine nil ?_
                show Code.wp _ _ _ _ _
                refine cond rfl (fun c114 => ?_) (fun c114 => ?_)
                ·
                  simp only [BS, ne_eq] at c114
                  refine region ?_
                  refine sv (yMove h15) ?_
                  refine sv (yMove rfl) ?_
                  refine sbslice hS Tryz.underlying34 Tryz.sizeOf3 rfl Tryz.zeroValue3 rfl (.cons rfl rfl .nil) rfl ?_; clear hS; intro b120 w hS
                  refine sapp (bytes := 8) (size := 1) (v := vu) (m := 1) hS rfl rfl Tryz.underlying34 ti3 rfl rfl rfl rfl (by decide) (blk_cells (hS.at _)) rfl rfl (by omega) (by omega) ?_; clear hS; intro v121 w hS
                  refine sv (yAsg rfl) ?_
                  refine nil ?_
                  show Code.wp _ _ _ _ _
                  refine region ?_
                  refine sv (yAdd h105 rfl ⟨by omega, by omega⟩) ?_
                  refine sv (yMove rfl) ?_
                  refine nil ?_
                  exact ⟨_, _, rfl, ⟨k + 1, _, _, h1, h2, h3, h6, h8, h9, h10, rfl, h16, h103, h104, rfl, (by rw [show upK t log now (k + 1) = upK t log now k ++ [(k : Int)] from filt_in (p := fun i => decide (lastF log i < stageF t i now)) hkn (decide_eq_true c114), show downK t log now (k + 1) = downK t log now k from filt_out (p := fun i => decide (stageF t i now < lastF log i)) hkn (decide_eq_false (by omega)), List.flatMap_append, List.length_append]; exact hS.sub (.cons _ (List.Sublist.refl _))), (by omega), rfl⟩, by omega⟩
                ·
                  simp only [BS, ne_eq] at c114
                  refine seq ?_
                  refine region ?_
                  refine sv (yMove rfl) ?_
                  refine sv (yMove rfl) ?_
                  refine sv (yLss rfl rfl) ?_
                  refine sv (yAsg rfl) ?_
                  refine nil ?_
                  show Code.wp _ _ _ _ _
                  refine cond rfl (fun c122 => ?_) (fun c122 => ?_)
                  ·
                    simp only [BS, ne_eq] at c122
                    refine region ?_
                    refine sv (yMove h16) ?_
                    refine sv (yMove rfl) ?_
                    refine sbslice hS Tryz.underlying34 Tryz.sizeOf3 rfl Tryz.zeroValue3 rfl (.cons rfl rfl .nil) rfl ?_; clear hS; intro b128 w hS
                    refine sapp (bytes := 8) (size := 1) (v := vd) (m := 1) hS rfl rfl Tryz.underlying34 ti3 rfl rfl rfl rfl (by decide) (blk_cells (hS.at _)) rfl rfl (by omega) (by omega) ?_; clear hS; intro v129 w hS
                    refine sv (yAsg rfl) ?_
                    refine nil ?_
                    show Code.wp _ _ _ _ _
                    refine region ?_
                    refine sv (yAdd h105 rfl ⟨by omega, by omega⟩) ?_
                    refine sv (yMove rfl) ?_
                    refine nil ?_
                    exact ⟨_, _, rfl, ⟨k + 1, _, _, h1, h2, h3, h6, h8, h9, h10, h15, rfl, h103, h104, rfl, (by rw [show upK t log now (k + 1) = upK t log now k from filt_out (p := fun i => decide (lastF log i < stageF t i now)) hkn (decide_eq_false c114), show downK t log now (k + 1) = downK t log now k ++ [(k : Int)] from filt_in (p := fun i => decide (stageF t i now < lastF log i)) hkn (decide_eq_true c122), List.flatMap_append, List.length_append]; exact hS.sub (.cons _ (List.Sublist.refl _))), (by omega), rfl⟩, by omega⟩
                  ·
                    simp only [BS, ne_eq] at c122
                    refine skip ?_
                    show Code.wp _ _ _ _ _
                    refine region ?_
                    refine sv (yAdd h105 rfl ⟨by omega, by omega⟩) ?_
                    refine sv (yMove rfl) ?_
                    refine nil ?_
                    exact ⟨_, _, rfl, ⟨k + 1, _, _, h1, h2, h3, h6, h8, h9, h10, h15, h16, h103, h104, rfl, (by rw [show upK t log now (k + 1) = upK t log now k from filt_out (p := fun i => decide (lastF log i < stageF t i now)) hkn (decide_eq_false c114), show downK t log now (k + 1) = downK t log now k from filt_out (p := fun i => decide (stageF t i now < lastF log i)) hkn (decide_eq_false c122)]; exact hS), (by omega), rfl⟩, by omega⟩
              ·
                simp only [BS, ne_eq] at c106
                obtain rfl : k = t.towns.length := by omega
                rw [upK_end, downK_end] at hS
                have hul := upK_len t log now t.towns.length
                have hdl := downK_len t log now t.towns.length
                rw [upK_end] at hul
                rw [downK_end] at hdl
                obtain ⟨au, cu, rfl⟩ := row_shape (hS.row vu)
                obtain ⟨ad, cd, rfl⟩ := row_shape (hS.row vd)
                refine exit ?_
                show Code.wp _ _ _ _ _
                refine seq ?_
                refine seq ?_
                refine region ?_
                refine sv (yMove h15) ?_
                refine sv (yMove h8) ?_
                refine sv (yFnB (.cons rfl .nil)) ?_
                refine scall Tryz.call75 (.cons rfl (.cons rfl .nil)) (c_sorted (fk := fun i => (arr t i).1.lo) (hS.row (.slice au (upL t log now).length cu)) Tryz.call76 (fun x w hx e => c_first (hB.ext (e.oldR hS)) (upL_mem hx)) (by omega)) ?_
                rintro _ w ⟨rfl, hM⟩
                replace hS := hS.app (v := .slice au (upL t log now).length cu) (v' := .slice au (upL t log now).length cu) (hM.row _) hM.grown (.inl rfl)
                clear hM
                refine sv (yMove h16) ?_
                refine sappS (bytes := 8) (size := 1) hS rfl rfl Tryz.underlying34 ti3 rfl rfl rfl rfl (by decide) Tryz.sizeOf3 (fun hh => by obtain ⟨bd, e1, e2⟩ := row_get (hS.row (.slice ad (downL t log now).length cd)) hh; exact ⟨bd, 0, e1, e2⟩) (by rw [flat_len encI_len]) (ints_one _) (by omega) (by omega) ?_; clear hS; intro v136 w hS
                rw [← ordL_len, ← List.flatMap_append] at hS
                replace hS : StX [] w0 w [rowI v136 3 1 (ordL t log now).length ((ordL t log now).flatMap Bx.encI), rowI (.slice ad (downL t log now).length cd) 3 1 (downL t log now).length ((downL t log now).flatMap Bx.encI), blk b10 [.slice (some ⟨b64, 0, none⟩) t.chans.length t.chans.length] 34, blk b60 ((ls).flatMap Bx.encI) 3, blk b64 ((rs).flatMap Bx.encI) 3] := hS
                obtain ⟨ao, co, rfl⟩ := row_shape (hS.row v136)
                refine sv (yLen rfl Tryz.underlying34) ?_
                refine sv (yMove rfl) ?_
                refine nil ?_
                show Code.wp _ _ _ _ _
                refine block ?_
                have hor := ordL_len t log now
                refine loop (fun f w zz => ∃ (k : Nat) (out : List Msg) (v : Value) (rs : List Int), f 1 = .slice al log.length cl ∧ f 2 = .int .i64 now ∧ f 3 = .pointer (some ⟨b3, 0, none⟩) ∧ f 6 = v ∧ f 8 = .pointer (some ⟨bb, 0, none⟩) ∧ f 10 = .pointer (some ⟨b10, 0, none⟩) ∧ f 136 = .slice ao (ordL t log now).length co ∧ f 137 = .int .i64 ((ordL t log now).length : Int) ∧ f 138 = .int .i64 (k : Int) ∧ StX [] w0 w [rowI v 70 5 (out).length ((out).flatMap msgC), rowI (.slice ao (ordL t log now).length co) 3 1 (ordL t log now).length ((ordL t log now).flatMap Bx.encI), blk b10 [.slice (some ⟨b64, 0, none⟩) t.chans.length t.chans.length] 34, blk b64 ((rs).flatMap Bx.encI) 3] ∧ (k ≤ (ordL t log now).length) ∧ (((ordL t log now).take k).foldl (nextStep t now) log = log ++ out) ∧ (rs.length = t.chans.length) ∧ (∀ j : Nat, j < t.chans.length → rs[j]? = some (roomF t (log ++ out) now (j : Int))) ∧ (out.length ≤ k) ∧ zz = (ordL t log now).length - k) _ ⟨_, rfl, 0, [], _, rs, h1, h2, h3, h6, h8, h10, rfl, rfl, rfl, ((hS.nilrow 70 5).sub (.cons_cons _ (.cons_cons _ (.cons _ (.cons_cons _ (.cons _ (List.Sublist.refl _))))))), (Nat.zero_le _), (by rw [List.append_nil]; rfl), (hrl), (by rw [List.append_nil]; exact hR), (Nat.le_refl _), rfl⟩ ?_
                clear hS
                rintro f w _ ⟨k, out, v, rs, h1, h2, h3, h6, h8, h10, h136, h137, h138, hS, hk, hA, hrl, hR, hol, rfl⟩
                refine seq ?_
                refine region ?_
                refine sv (yLss h138 h137) ?_
                refine nil ?_
                show Code.wp _ _ _ _ _
                refine seq ?_
                refine cond rfl (fun c139 => ?_) (fun c139 => ?_)
                ·
                  simp only [BS, ne_eq] at c139
                  obtain ⟨am, cm, rfl⟩ := row_shape (hS.row v)
                  obtain ⟨i, hi, -⟩ := drop_of (l := ordL t log now) (k := k) (by omega)
                  have hib := ordL_mem (List.mem_of_getElem? hi)
                  obtain ⟨go, hao, -⟩ := row_get (hS.row (.slice ao (ordL t log now).length co)) (by omega)
                  obtain ⟨bt, ot, cst, hat, hlt, hcst, hRt, -⟩ := sl_at s2 (twn_i (t := t) hib)
                  obtain ⟨dvt, rfl, -, -, -, -, hslt, -⟩ := hRt
                  have hto := town_ok hok hib
                  have htl := hto.lead
                  have hch := chans_len hok hib
                  have hcl := canL_len hok hib (log ++ out) now
                  have hRc : ∀ c, 0 ≤ c ∧ c < (t.chans.length : Int) → rs[c.toNat]? = some (roomF t (log ++ out) now c) := fun c hc => at_i (f := fun j => roomF t (log ++ out) now j) hR hc
                  refine skip ?_
                  show Code.wp _ _ _ _ _
                  refine seq ?_
                  refine block ?_
                  refine seq ?_
                  refine region ?_
                  refine sv (yIxa h136 hao h138 Tryz.runUnderlying34 Tryz.sizeOf3 (by omega) (by omega)) ?_
                  refine sv (yLd rfl Tryz.isAgg3 ((flat_cells (enc := Bx.encI) encI_len (row_at (hS.row (.slice ao (ordL t log now).length co)) hao (by omega)) hi).one)) ?_
                  refine sv (yAsg rfl) ?_
                  refine nil ?_
                  show Code.wp _ _ _ _ _
                  refine seq ?_
                  refine region ?_
                  refine sv (fa26_2 h3) ?_
                  refine sv (yLdB rfl Tryz.isAgg23 (hS.ext.get hb3) rfl) ?_
                  refine sv (yMove rfl) ?_
                  refine sv (yIxa rfl hat rfl Tryz.runUnderlying23 Tryz.sizeOf36 (by omega) (by omega)) ?_
                  refine sv (fa36_4 rfl) ?_
                  refine sv (yLd rfl Tryz.isAgg34 ((hcst.ext hS.ext).at (j := 4) rfl)) ?_
                  obtain ⟨ac, cc, rfl, -⟩ := id hslt
                  refine scall Tryz.call86 (.cons rfl .nil) (c_CloneI (hslt.ext RInt.stays hS.ext) (by omega)) ?_
                  rintro v148 w hM; replace hS := hS.call1 hM; clear hM
                  obtain ⟨ak, ck, rfl⟩ := row_shape (hS.row v148)
                  refine sv (yFn (.cons h10 .nil)) ?_
                  have hno1 : b10 ∉ (Value.slice ak (twn t i).chans.length ck).ownBlock.toList := hS.notR (by simp [fps, cellI])
                  have hno2 : b64 ∉ (Value.slice ak (twn t i).chans.length ck).ownBlock.toList := hS.notR (by simp [fps, cellI])
                  refine scall Tryz.call85 (.cons rfl (.cons rfl .nil)) (c_DeleteI (p := fun c => decide (roomF t (log ++ out) now c ≤ 0)) (hS.row (.slice ak (twn t i).chans.length ck)) Tryz.call87 (fun c w hc e => c_Next1 (l := rs) (by rw [hrl]; exact e.get (hS.at b10) hno1) (e.get (hS.at b64) hno2) (hto.chans c hc).1 (hRc c (hto.chans c hc))) (fun c hc => by have := hto.chans c hc; constructor <;> omega) (by omega)) ?_
                  rintro u w ⟨hu, hM⟩
                  replace hu : u = .slice ak (canL t (log ++ out) now i).length ck := hu
                  subst hu
                  replace hM : StX (Value.slice ak (twn t i).chans.length ck).ownBlock.toList _ w [rowI (.slice ak (canL t (log ++ out) now i).length ck) 3 1 (canL t (log ++ out) now i).length ((canL t (log ++ out) now i).flatMap Bx.encI)] := hM
                  replace hS := hS.app (v := .slice ak (twn t i).chans.length ck) (v' := .slice ak (canL t (log ++ out) now i).length ck) (hM.row _) hM.grown (.inl own_slice)
                  clear hM
                  replace hS : StX [] w0 w [rowI (.slice ak (canL t (log ++ out) now i).length ck) 3 1 (canL t (log ++ out) now i).length ((canL t (log ++ out) now i).flatMap Bx.encI), rowI (.slice am out.length cm) 70 5 (out).length ((out).flatMap msgC), rowI (.slice ao (ordL t log now).length co) 3 1 (ordL t log now).length ((ordL t log now).flatMap Bx.encI), blk b10 [.slice (some ⟨b64, 0, none⟩) t.chans.length t.chans.length] 34, blk b64 ((rs).flatMap Bx.encI) 3] := hS
                  refine sv (yAsg rfl) ?_
                  refine nil ?_
                  show Code.wp _ _ _ _ _
                  refine seq ?_
                  refine seq ?_
                  refine region ?_
                  refine sv (yMove rfl) ?_
                  refine sv (yLen rfl Tryz.underlying34) ?_
                  refine sv (yEql rfl rfl) ?_
                  refine nil ?_
                  show Code.wp _ _ _ _ _
                  refine cond rfl (fun c153 => ?_) (fun c153 => ?_)
                  ·
                    simp only [BS, ne_eq] at c153
                    refine exit ?_
                    show Code.wp _ _ _ _ _
                    refine region ?_
                    refine sv (yAdd h138 rfl ⟨by omega, by omega⟩) ?_
                    refine sv (yMove rfl) ?_
                    refine nil ?_
                    exact ⟨_, _, rfl, ⟨k + 1, out, _, rs, h1, h2, h3, h6, h8, h10, h136, h137, rfl, (hS.sub (.cons _ (List.Sublist.refl _))), (by omega), (fold_none hi hA (step_none (by omega))), (hrl), (hR), (by omega), rfl⟩, by omega⟩
                  ·
                    simp only [BS, ne_eq] at c153
                    refine skip ?_
                    show Code.wp _ _ _ _ _
                    refine seq ?_
                    refine region ?_
                    refine sv (yMove rfl) ?_
                    refine sv (yFn (.cons h3 .nil)) ?_
                    obtain ⟨c, hc0⟩ : ∃ c, (sortV (fun c => (chn t c).delay) (canL t (log ++ out) now i))[0]? = some c := ⟨_, List.getElem?_eq_getElem (by rw [sortV_len]; omega)⟩
                    have hcm := canL_mem ((sortV_perm _ _).mem_iff.1 (List.mem_of_getElem? hc0))
                    have hcb := hto.chans c hcm
                    have hrb := roomF_bd hok hcb (log ++ out) now
                    have hal : ((log ++ out)).length = log.length + out.length := List.length_append
                    refine scall Tryz.call75 (.cons rfl (.cons rfl .nil)) (c_sorted (fk := fun c => (chn t c).delay) (hS.row (.slice ak (canL t (log ++ out) now i).length ck)) Tryz.call88 (fun c w hc e => c_Next2 ((e.oldR hS).get hb3) (s1.ext RChan.stays (e.oldR hS)) (hto.chans c (canL_mem hc))) (by omega)) ?_
                    rintro _ w ⟨rfl, hM⟩
                    replace hS := hS.app (v := .slice ak (canL t (log ++ out) now i).length ck) (v' := .slice ak (canL t (log ++ out) now i).length ck) (hM.row _) hM.grown (.inl rfl)
                    clear hM
                    obtain ⟨gk, hak, -⟩ := row_get (hS.row (.slice ak (canL t (log ++ out) now i).length ck)) (by omega)
                    refine sv (yIxa rfl hak rfl Tryz.runUnderlying34 Tryz.sizeOf3 (by omega) (by omega)) ?_
                    refine sv (yLd rfl Tryz.isAgg3 ((flat_cells (enc := Bx.encI) encI_len (row_at (hS.row (.slice ak (canL t (log ++ out) now i).length ck)) hak (by omega)) hc0).one)) ?_
                    refine sv (yAsg rfl) ?_
                    refine nil ?_
                    show Code.wp _ _ _ _ _
                    refine seq ?_
                    refine region ?_
                    refine sv (yLdB h10 Tryz.isAgg34 (hS.at _) rfl) ?_
                    refine sv (yMove rfl) ?_
                    refine sv (yIx0 (m := c.toNat) rfl (rfl.trans (congrArg (Value.int .i64) (by omega))) Tryz.runUnderlying34 Tryz.sizeOf3 (by omega)) ?_
                    refine sv (yLd rfl Tryz.isAgg3 ((flat_cells0 (enc := Bx.encI) encI_len (blk_cells (hS.at b64)) (hRc c hcb)).one)) ?_
                    refine sv (ySub rfl rfl ⟨by omega, by omega⟩) ?_
                    refine sv (yIx0 (m := c.toNat) rfl (rfl.trans (congrArg (Value.int .i64) (by omega))) Tryz.runUnderlying34 Tryz.sizeOf3 (by omega)) ?_
                    refine sst hS rfl rfl Tryz.sizeOf3 rfl rfl (by rw [Nat.ble_eq, flat_len encI_len]; simp; omega) rfl ?_; clear hS; intro w hS
                    refine nil ?_
                    show Code.wp _ _ _ _ _
                    refine region ?_
                    refine sv (yMove h6) ?_
                    refine sv (yMove h1) ?_
                    refine sv (yLen rfl Tryz.underlying62) ?_
                    refine sv (yMove h6) ?_
                    refine sv (yLen rfl Tryz.underlying62) ?_
                    refine sv (yAdd rfl rfl ⟨by omega, by omega⟩) ?_
                    refine sv (yAdd rfl rfl ⟨by omega, by omega⟩) ?_
                    refine sv (yMove rfl) ?_
                    refine sv (yMove h8) ?_
                    refine sv (yMove rfl) ?_
                    refine sv (yMove h2) ?_
                    refine scall Tryz.call72 (.cons rfl (.cons rfl (.cons rfl .nil))) (c_stage (hB.ext hS.ext) hib) ?_
                    rintro _ w ⟨rfl, hE⟩; replace hS := hS.step hE; clear hE
                    refine sv (yMove rfl) ?_
                    refine sv (yMove h2) ?_
                    refine sv (yBuild Tryz.zeroValue70 rfl pl70 (.cons rfl rfl (.cons rfl rfl (.cons rfl rfl (.cons rfl rfl (.cons rfl rfl .nil))))) rfl) ?_
                    refine sbslice hS Tryz.underlying62 Tryz.sizeOf70 rfl Tryz.zeroValue70 rfl (.cons rfl rfl .nil) rfl ?_; clear hS; intro b180 w hS
                    refine sapp (bytes := 40) (size := 5) (v := (.slice am out.length cm)) (m := 1) hS rfl rfl Tryz.underlying62 ti70 rfl rfl rfl rfl (by decide) (blk_cells (hS.at _)) rfl rfl (by omega) (by omega) ?_; clear hS; intro v181 w hS
                    refine sv (yAsg rfl) ?_
                    refine nil ?_
                    show Code.wp _ _ _ _ _
                    refine region ?_
                    refine sv (yAdd h138 rfl ⟨by omega, by omega⟩) ?_
                    refine sv (yMove rfl) ?_
                    refine nil ?_
                    exact ⟨_, _, rfl, ⟨k + 1, out ++ [msgF t (log ++ out) now i c], _, rs.set c.toNat (roomF t (log ++ out) now c - 1), h1, h2, h3, rfl, h8, h10, h136, h137, rfl, (by rw [← splice_enc encI_len rs c.toNat _ (by omega), List.flatMap_append, List.length_append]; simp only [List.flatMap_cons, List.flatMap_nil, List.append_nil, msgC, msgF, List.length_append, Int.natCast_add, List.length_singleton]; exact hS.sub (.cons _ (.cons _ (List.Sublist.refl _)))), (by omega), (fold_some hi hA (step_some hc0)), (by simp [hrl]), (by rw [← List.append_assoc]; exact room_step (x := msgF t (log ++ out) now i c) hrl hcb rfl hR), (by simp; omega), rfl⟩, by omega⟩
                ·
                  simp only [BS, ne_eq] at c139
                  refine exit ?_
                  show Code.wp _ _ _ _ _
                  refine seq ?_
                  refine region ?_
                  refine sv (yMove h6) ?_
                  refine sv (yAsg rfl) ?_
                  refine sv (yAsg rfl) ?_
                  refine nil ?_
                  show Code.wp _ _ _ _ _
                  refine wp_ret ?_
                  refine retQ (res2 rfl rfl rfl) ?_
                  obtain rfl : k = (ordL t log now).length := by omega
                  have hnf := next_end hA
                  have hf : nextR t log now = (out, 0) := by unfold nextR; rw [hE1, if_neg (by decide), hnf]
                  rw [hf]
                  exact ⟨v, rfl, StX.base hE0 (hS.sub (.cons_cons _ (List.nil_sublist _)))⟩
    ·
      exact absurd c30 (by decide)
end Go.Proofs.YtmoilbakmlekbaaGreatDoor

/- part A16 -/
namespace Bx
open Go Go.RowKit
def exC1 : Chan := ⟨⟨#[115, 105, 114, 101, 110]⟩, 0, 1⟩
def exC2 : Chan := ⟨⟨#[114, 97, 100, 105, 111]⟩, 2, 2⟩
def exT1 : Town := ⟨⟨#[100, 105, 107, 101]⟩, 0, 3, 4, [0, 1]⟩
def exT2 : Town := ⟨⟨#[109, 105, 108, 108]⟩, 0, 5, 6, [0]⟩
def exT3 : Town := ⟨⟨#[104, 105, 108, 108]⟩, 1, 0, 10, [1]⟩
def exT : Task := ⟨2, [exC1, exC2], [exT1, exT2, exT3], [[20, -1], [24, 40]]⟩
def exL : List Msg := [⟨1, 0, 2, 0, 18⟩, ⟨2, 2, 1, 1, 18⟩]
def exS1 : Slot := ⟨0, 0, 18⟩
def exS2 : Slot := ⟨1, 0, 19⟩
def exS3 : Slot := ⟨2, 1, 18⟩
theorem ex_plan : planR exT 18 = ([exS1, exS2, exS3], 0) := by decide +kernel
theorem ex_next : nextR exT [] 18 = (exL, 0) := by decide +kernel
theorem ex_stage : stageR exT 3 0 = (0, 4) := by decide +kernel
def RSlot (_ : World) (cs : List Value) (s : Slot) : Prop := cs = slotC s ∧ I64 s.town ∧ I64 s.channel ∧ I64 s.sent
theorem RSlot.stays : Stays RSlot := fun _ _ _ _ _ h => h
abbrev MsgI (m : Msg) : Prop := I64 m.number ∧ I64 m.town ∧ I64 m.stage ∧ I64 m.channel ∧ I64 m.sent
theorem sl_msgs {w : World} {e : TypeId} {v : Value} {n : Nat} {l : List Msg} (h : w.ownsRow 0 e 5 v n (l.flatMap msgC)) (hn : l.length = n) (hok : ∀ m ∈ l, MsgI m) : Sl w 5 RMsg v l := by
  subst hn
  exact row_sl msgC_len h fun m hm => hok m hm
end Bx

/- part Aw17 -/
namespace Go.Proofs.YtmoilbakmlekbaaGreatDoor
open Go Bx
set_option maxHeartbeats 2000000 in
/-- barrage/barragelaw11.Task -/
theorem c_Task {w0 : World} : CE Tryz.prog 42 #[] w0 (fun u w' => ∃ hv nv fv, u = .agg [.int .i64 exT.polders, hv, nv, fv].toArray ∧ RTask w' [.int .i64 exT.polders, hv, nv, fv] exT ∧ Ext w0 w') := by
  refine enter Tryz.func42 rfl Tryz.ntmps42 rfl ?_
  have hS := St.start w0
  refine seq ?_
  refine region ?_
  refine salloc hS Tryz.zeroValue26 rfl ?_; clear hS; intro b0 w hS
  refine nil ?_
  show Code.wp _ _ _ _ _
  refine seq ?_
  refine region ?_
  refine sv (yBuild Tryz.zeroValue41 rfl pl41 (.cons rfl rfl (.cons rfl rfl .nil)) rfl) ?_
  refine sv (yBuild Tryz.zeroValue41 rfl pl41 (.cons rfl rfl (.cons rfl rfl (.cons rfl rfl .nil))) rfl) ?_
  refine sbslice hS Tryz.underlying22 Tryz.sizeOf41 rfl Tryz.zeroValue41 rfl (.cons rfl rfl (.cons rfl rfl .nil)) rfl ?_; clear hS; intro b3 w hS
  refine sbslice hS Tryz.underlying34 Tryz.sizeOf3 rfl Tryz.zeroValue3 rfl (.cons rfl rfl (.cons rfl rfl .nil)) rfl ?_; clear hS; intro b4 w hS
  refine sv (yBuild Tryz.zeroValue36 rfl pl36 (.cons rfl rfl (.cons rfl rfl (.cons rfl rfl (.cons rfl rfl .nil)))) rfl) ?_
  refine sbslice hS Tryz.underlying34 Tryz.sizeOf3 rfl Tryz.zeroValue3 rfl (.cons rfl rfl .nil) rfl ?_; clear hS; intro b6 w hS
  refine sv (yBuild Tryz.zeroValue36 rfl pl36 (.cons rfl rfl (.cons rfl rfl (.cons rfl rfl (.cons rfl rfl .nil)))) rfl) ?_
  refine sbslice hS Tryz.underlying34 Tryz.sizeOf3 rfl Tryz.zeroValue3 rfl (.cons rfl rfl .nil) rfl ?_; clear hS; intro b8 w hS
  refine sv (yBuild Tryz.zeroValue36 rfl pl36 (.cons rfl rfl (.cons rfl rfl (.cons rfl rfl (.cons rfl rfl .nil)))) rfl) ?_
  refine sbslice hS Tryz.underlying23 Tryz.sizeOf36 rfl Tryz.zeroValue36 rfl (.cons rfl rfl (.cons rfl rfl (.cons rfl rfl .nil))) rfl ?_; clear hS; intro b10 w hS
  refine sbslice hS Tryz.underlying34 Tryz.sizeOf3 rfl Tryz.zeroValue3 rfl (.cons rfl rfl (.cons rfl rfl .nil)) rfl ?_; clear hS; intro b11 w hS
  refine sbslice hS Tryz.underlying34 Tryz.sizeOf3 rfl Tryz.zeroValue3 rfl (.cons rfl rfl (.cons rfl rfl .nil)) rfl ?_; clear hS; intro b12 w hS
  refine sbslice hS Tryz.underlying24 Tryz.sizeOf34 rfl Tryz.zeroValue34 rfl (.cons rfl rfl (.cons rfl rfl .nil)) rfl ?_; clear hS; intro b13 w hS
  refine sv (yBuild Tryz.zeroValue26 rfl pl26 (.cons rfl rfl (.cons rfl rfl (.cons rfl rfl (.cons rfl rfl .nil)))) rfl) ?_
  refine sst hS rfl rfl Tryz.sizeOf26 rfl rfl rfl rfl ?_; clear hS; intro w hS
  refine nil ?_
  show Code.wp _ _ _ _ _
  refine wp_ret ?_
  refine retQ (resV1 rfl (rc rfl Tryz.isAgg26 Tryz.sizeOf26 (hS.at b0) rfl rfl)) ?_
  exact ⟨_, _, _, rfl, ⟨_, _, _, rfl, by decide, (show Sl w 3 RChan (.slice (some ⟨b3, 0, none⟩) 2 2) ([exC1, exC2] : List Chan) from sl_of_blk (hS.at b3) (css := [[.string ⟨#[115, 105, 114, 101, 110]⟩, .int .i64 0, .int .i64 1], [.string ⟨#[114, 97, 100, 105, 111]⟩, .int .i64 2, .int .i64 2]]) (l := ([exC1, exC2] : List Chan)) rfl ⟨rfl, ⟨rfl, by decide, by decide, by decide⟩, rfl, ⟨rfl, by decide, by decide, by decide⟩, trivial⟩ (by decide) rfl), (show Sl w 5 RTown (.slice (some ⟨b10, 0, none⟩) 3 3) ([exT1, exT2, exT3] : List Town) from sl_of_blk (hS.at b10) (css := [[.string ⟨#[100, 105, 107, 101]⟩, .int .i64 0, .int .i64 3, .int .i64 4, .slice (some ⟨b4, 0, none⟩) 2 2], [.string ⟨#[109, 105, 108, 108]⟩, .int .i64 0, .int .i64 5, .int .i64 6, .slice (some ⟨b6, 0, none⟩) 1 1], [.string ⟨#[104, 105, 108, 108]⟩, .int .i64 1, .int .i64 0, .int .i64 10, .slice (some ⟨b8, 0, none⟩) 1 1]]) (l := ([exT1, exT2, exT3] : List Town)) rfl ⟨rfl, ⟨_, rfl, by decide, by decide, by decide, by decide, (ints_sl (l := [0, 1]) (hS.at b4) (by decide) (by decide)), (Nat.le_of_ble_eq_true rfl)⟩, rfl, ⟨_, rfl, by decide, by decide, by decide, by decide, (ints_sl (l := [0]) (hS.at b6) (by decide) (by decide)), (Nat.le_of_ble_eq_true rfl)⟩, rfl, ⟨_, rfl, by decide, by decide, by decide, by decide, (ints_sl (l := [1]) (hS.at b8) (by decide) (by decide)), (Nat.le_of_ble_eq_true rfl)⟩, trivial⟩ (by decide) rfl), (show Sl w 1 RRow (.slice (some ⟨b13, 0, none⟩) 2 2) ([[20, -1], [24, 40]] : List (List Int)) from sl_of_blk (hS.at b13) (css := [[.slice (some ⟨b11, 0, none⟩) 2 2], [.slice (some ⟨b12, 0, none⟩) 2 2]]) (l := ([[20, -1], [24, 40]] : List (List Int))) rfl ⟨rfl, ⟨_, rfl, (ints_sl (l := [20, -1]) (hS.at b11) (by decide) (by decide))⟩, rfl, ⟨_, rfl, (ints_sl (l := [24, 40]) (hS.at b12) (by decide) (by decide))⟩, trivial⟩ (by decide) rfl)⟩, hS.ext⟩
set_option maxHeartbeats 2000000 in
/-- barrage/barragelaw11.Log -/
theorem c_Log {w0 : World} : CE Tryz.prog 43 #[] w0 (fun u w' => Sl w' 5 RMsg u exL ∧ Ext w0 w') := by
  refine enter Tryz.func43 rfl Tryz.ntmps43 rfl ?_
  have hS := St.start w0
  refine seq ?_
  refine region ?_
  refine sv (yAsg rfl) ?_
  refine nil ?_
  show Code.wp _ _ _ _ _
  refine seq ?_
  refine region ?_
  refine sv (yBuild Tryz.zeroValue70 rfl pl70 (.cons rfl rfl (.cons rfl rfl (.cons rfl rfl (.cons rfl rfl (.cons rfl rfl .nil))))) rfl) ?_
  refine sv (yBuild Tryz.zeroValue70 rfl pl70 (.cons rfl rfl (.cons rfl rfl (.cons rfl rfl (.cons rfl rfl (.cons rfl rfl .nil))))) rfl) ?_
  refine sbslice hS Tryz.underlying62 Tryz.sizeOf70 rfl Tryz.zeroValue70 rfl (.cons rfl rfl (.cons rfl rfl .nil)) rfl ?_; clear hS; intro b3 w hS
  refine sv (yAsg rfl) ?_
  refine nil ?_
  show Code.wp _ _ _ _ _
  refine wp_ret ?_
  refine retQ (res1 rfl rfl) ?_
  exact ⟨(show Sl w 5 RMsg (.slice (some ⟨b3, 0, none⟩) 2 2) ([⟨1, 0, 2, 0, 18⟩, ⟨2, 2, 1, 1, 18⟩] : List Msg) from sl_of_blk (hS.at b3) (css := [[.int .i64 1, .int .i64 0, .int .i64 2, .int .i64 0, .int .i64 18], [.int .i64 2, .int .i64 2, .int .i64 1, .int .i64 1, .int .i64 18]]) (l := ([⟨1, 0, 2, 0, 18⟩, ⟨2, 2, 1, 1, 18⟩] : List Msg)) rfl ⟨rfl, ⟨rfl, by decide, by decide, by decide, by decide, by decide⟩, rfl, ⟨rfl, by decide, by decide, by decide, by decide, by decide⟩, trivial⟩ (by decide) rfl), hS.ext⟩
/-- barrage/barrageref11.Messages -/
theorem c_Msgs {la lb : List Msg} {va vb : Value} {w0 : World} (ha : Sl w0 5 RMsg va la) (hb : Sl w0 5 RMsg vb lb) : CV Tryz.prog 35 #[va, vb] w0 (.bool (decide (la = lb))) := by
  obtain ⟨aa, ca, rfl, hca, hma, hela⟩ := ha
  obtain ⟨ab, cb, rfl, hcb, hmb, helb⟩ := hb
  refine enter Tryz.func35 rfl Tryz.ntmps35 rfl ?_
  have hS := St.start w0
  refine seq ?_
  refine region ?_
  refine sv (yAsg rfl) ?_
  refine nil ?_
  show Code.wp _ _ _ _ _
  refine seq ?_
  refine seq ?_
  refine region ?_
  refine sv (yMove rfl) ?_
  refine sv (yLen rfl Tryz.underlying62) ?_
  refine sv (yMove rfl) ?_
  refine sv (yLen rfl Tryz.underlying62) ?_
  refine sv (yNeq rfl rfl) ?_
  refine nil ?_
  show Code.wp _ _ _ _ _
  refine cond rfl (fun c10 => ?_) (fun c10 => ?_)
  ·
    simp only [BS, ne_eq] at c10
    refine seq ?_
    refine region ?_
    refine sv (yAsg rfl) ?_
    refine nil ?_
    show Code.wp _ _ _ _ _
    refine wp_ret (thenR ?_)
    exact retV (res1 rfl (eqB (by rw [decide_eq_false (fun h => by rw [h] at c10; exact c10 rfl)]))) hS.ext
  ·
    simp only [BS, ne_eq] at c10
    refine skip ?_
    show Code.wp _ _ _ _ _
    refine seq ?_
    refine seq ?_
    refine region ?_
    refine sv (yAsg rfl) ?_
    refine nil ?_
    show Code.wp _ _ _ _ _
    refine block ?_
    refine loop (fun f w zz => ∃ (k : Nat), f 0 = .slice aa la.length ca ∧ f 1 = .slice ab lb.length cb ∧ f 5 = .int .i64 (k : Int) ∧ StX [] w0 w [] ∧ (k ≤ la.length) ∧ (∀ i, i < k → la[i]? = lb[i]?) ∧ zz = la.length - k) _ ⟨_, rfl, 0, rfl, rfl, rfl, hS, (Nat.zero_le _), (fun i hi => absurd hi (Nat.not_lt_zero i)), rfl⟩ ?_
    clear hS
    rintro f w _ ⟨k, h0, h1, h5, hS, hk, hI, rfl⟩
    refine seq ?_
    refine seq ?_
    refine region ?_
    refine sv (yMove h5) ?_
    refine sv (yMove h0) ?_
    refine sv (yLen rfl Tryz.underlying62) ?_
    refine sv (yLss rfl rfl) ?_
    refine nil ?_
    show Code.wp _ _ _ _ _
    refine cond rfl (fun c14 => ?_) (fun c14 => ?_)
    ·
      simp only [BS, ne_eq] at c14
      obtain ⟨x, hx, hd⟩ := drop_of (l := la) (k := k) (by omega)
      obtain ⟨b, o, cs, ha, hlen, hcs, hR⟩ := hela (k) (by omega)
      obtain rfl : x = la[k] := (List.getElem?_eq_some_iff.1 hx).2.symm
      generalize la[k] = x at hx hd hR
      obtain ⟨rfl, _⟩ := hR
      obtain ⟨y, hxq, hdq⟩ := drop_of (l := lb) (k := k) (by omega)
      obtain ⟨bq, oq, csq, haq, hlenq, hcsq, hRq⟩ := helb (k) (by omega)
      obtain rfl : y = lb[k] := (List.getElem?_eq_some_iff.1 hxq).2.symm
      generalize lb[k] = y at hxq hdq hRq
      obtain ⟨rfl, _⟩ := hRq
      refine skip ?_
      show Code.wp _ _ _ _ _
      refine seq ?_
      refine block ?_
      refine seq ?_
      refine region_draw mixed (by kernel_rfl) hS ?_
      refine qv (fun w hS => (yMove h0)) ?_
      refine qv (fun w hS => (yMove h5)) ?_
      refine qv (fun w hS => (yIxa rfl ha rfl Tryz.runUnderlying62 Tryz.sizeOf70 (by omega) (by omega))) ?_
      refine qv (fun w hS => (yLdA rfl Tryz.isAgg70 Tryz.sizeOf70 (hcs.ext hS.ext) rfl)) ?_
      refine qv (fun w hS => (yMove h1)) ?_
      refine qv (fun w hS => (yMove h5)) ?_
      refine qv (fun w hS => (yIxa rfl haq rfl Tryz.runUnderlying62 Tryz.sizeOf70 (by omega) (by omega))) ?_
      refine qv (fun w hS => (yLdA rfl Tryz.isAgg70 Tryz.sizeOf70 (hcsq.ext hS.ext) rfl)) ?_
      refine qv (fun w hS => (neS70 rfl rfl)) ?_
      clear hS; refine qnil (fun w hS => ?_)
      show Code.wp _ _ _ _ _
      refine cond rfl (fun c25 => ?_) (fun c25 => ?_)
      ·
        have hne : x ≠ y := fun h => by subst h; simp [] at c25
        refine seq ?_
        refine region ?_
        refine sv (yAsg rfl) ?_
        refine nil ?_
        show Code.wp _ _ _ _ _
        refine wp_ret (blockR (thenR (thenR (blockR (thenR ?_)))))
        exact retV (res1 rfl (eqB (by rw [decide_eq_false (ne_of_get hx hxq hne)]))) hS.ext
      ·
        have hxy : x = y := by cases x; cases y; simpa [and_assoc] using c25
        refine skip ?_
        show Code.wp _ _ _ _ _
        refine region ?_
        refine sv (yMove h5) ?_
        refine sv (yAdd rfl rfl ⟨by omega, by omega⟩) ?_
        refine sv (yAsg rfl) ?_
        refine nil ?_
        exact ⟨_, _, rfl, ⟨k + 1, h0, h1, rfl, hS, (by omega), (snoc hI (by rw [hx, hxq, hxy])), rfl⟩, by omega⟩
    ·
      simp only [BS, ne_eq] at c14
      refine exit ?_
      show Code.wp _ _ _ _ _
      refine seq ?_
      refine region ?_
      refine sv (yAsg rfl) ?_
      refine nil ?_
      show Code.wp _ _ _ _ _
      refine wp_ret ?_
      exact retV (res1 rfl (eqB (by rw [decide_eq_true (eq_of_get (by omega) (fun i hi => hI i (by omega)))]))) hS.ext
end Go.Proofs.YtmoilbakmlekbaaGreatDoor

/- part Aw18 -/
namespace Go.Proofs.YtmoilbakmlekbaaGreatDoor
open Go Bx
set_option maxHeartbeats 4000000 in
/-- barrage/barragelaw11.Awake -/
theorem c_Awake {w0 : World} (hg : Glb w0) : CV Tryz.prog 20 #[] w0 (.bool true) := by
  refine enter Tryz.func20 rfl Tryz.ntmps20 rfl ?_
  have hS := St.start w0
  refine seq ?_
  refine region ?_
  refine sv (yAsg rfl) ?_
  refine nil ?_
  show Code.wp _ _ _ _ _
  refine seq ?_
  refine region ?_
  refine scall Tryz.call42 .nil c_Task ?_
  rintro _ w ⟨hv1, nv1, fv1, rfl, hT1, hE⟩; replace hS := hS.step hE; clear hE
  refine scall Tryz.call18 (.cons rfl (.cons rfl .nil)) (c_Plan (hg.ext hS.ext) hT1) ?_
  rw [ex_plan]
  rintro _ w ⟨lv, rfl, hM⟩; replace hS := hS.call1 hM; clear hM
  replace hS : StX [] w0 w [rowI lv 38 3 3 ([exS1, exS2, exS3].flatMap slotC)] := hS
  obtain ⟨al, cl, rfl⟩ := row_shape (hS.row lv)
  obtain ⟨gl, rfl, -⟩ := row_get (hS.row (.slice al 3 cl)) (by decide)
  refine sv (yMove rfl) ?_
  refine sv (yExt rfl rfl) ?_
  refine sv (yExt rfl rfl) ?_
  refine sv (yAsg rfl) ?_
  refine sv (yAsg rfl) ?_
  refine nil ?_
  show Code.wp _ _ _ _ _
  refine seq ?_
  refine region ?_
  refine scall Tryz.call42 .nil c_Task ?_
  rintro _ w ⟨hv2, nv2, fv2, rfl, hT2, hE⟩; replace hS := hS.step hE; clear hE
  refine scall Tryz.call33 (.cons rfl (.cons rfl (.cons rfl .nil))) (c_Next (hg.ext hS.ext) hT2 (log := []) Sl.nil) ?_
  rw [ex_next]
  rintro _ w ⟨mv, rfl, hM⟩; replace hS := hS.call1 hM; clear hM
  replace hS : StX [] w0 w [rowI mv 70 5 exL.length (exL.flatMap msgC), rowI (.slice (some ⟨gl, 0, none⟩) 3 cl) 38 3 3 ([exS1, exS2, exS3].flatMap slotC)] := hS
  refine sv (yMove rfl) ?_
  refine sv (yExt rfl rfl) ?_
  refine sv (yExt rfl rfl) ?_
  refine sv (yAsg rfl) ?_
  refine sv (yAsg rfl) ?_
  refine nil ?_
  show Code.wp _ _ _ _ _
  refine seq ?_
  refine region ?_
  refine scall Tryz.call42 .nil c_Task ?_
  rintro _ w ⟨hv3, nv3, fv3, rfl, hT3, hE⟩; replace hS := hS.step hE; clear hE
  refine scall Tryz.call25 (.cons rfl (.cons rfl (.cons rfl .nil))) (c_Stage (hg.ext hS.ext) hT3 (i := 3) (now := 0)) ?_
  rw [ex_stage]
  rintro _ w ⟨rfl, hE⟩; replace hS := hS.step hE; clear hE
  refine sv (yMove rfl) ?_
  refine sv (yExt rfl rfl) ?_
  refine sv (yExt rfl rfl) ?_
  refine sv (yAsg rfl) ?_
  refine sv (yAsg rfl) ?_
  refine nil ?_
  show Code.wp _ _ _ _ _
  refine seq ?_
  refine region ?_
  refine sv (yMove rfl) ?_
  refine sv (yEql rfl rfl) ?_
  refine sv (yMove rfl) ?_
  refine ungo rfl rfl rfl ?_
  refine sv (yMove rfl) ?_
  refine ungo rfl rfl rfl ?_
  refine sv (yEql rfl rfl) ?_
  refine sv (yAnd rfl (fun hB => rfl) rfl) ?_
  refine sv (yMove rfl) ?_
  refine ungo rfl rfl rfl ?_
  refine sv (yMove rfl) ?_
  refine ungo rfl rfl rfl ?_
  refine sv (yEql rfl rfl) ?_
  refine sv (yAnd rfl (fun hB => rfl) rfl) ?_
  refine sv (yMove rfl) ?_
  refine ungo rfl rfl rfl ?_
  refine sv (yMove rfl) ?_
  refine ungo rfl rfl rfl ?_
  refine sv (yLen rfl Tryz.underlying27) ?_
  refine ungo rfl rfl rfl ?_
  refine sv (yEql rfl rfl) ?_
  refine sv (yAnd rfl (fun hB => rfl) rfl) ?_
  refine sv (yMove rfl) ?_
  refine ungo rfl rfl rfl ?_
  refine sv (yMove rfl) ?_
  refine ungo rfl rfl rfl ?_
  refine sv (yIx0 (m := 1) rfl rfl Tryz.runUnderlying27 Tryz.sizeOf38 (by decide)) ?_
  refine ungo rfl rfl rfl ?_
  refine sv (yLdA rfl Tryz.isAgg38 Tryz.sizeOf38 (flat_cells0 slotC_len (row_at (hS.row (.slice (some ⟨gl, 0, none⟩) 3 cl)) rfl (by decide)) (x := exS2) rfl) rfl) ?_
  refine ungo rfl rfl rfl ?_
  refine sv (yBuild Tryz.zeroValue38 rfl pl38 (.cons rfl rfl (.cons rfl rfl .nil)) rfl) ?_
  refine ungo rfl rfl rfl ?_
  refine sv (eqS38 rfl rfl) ?_
  refine sv (yAnd rfl (fun hB => rfl) rfl) ?_
  refine sv (yMove rfl) ?_
  refine ungo rfl rfl rfl ?_
  refine sv (yMove rfl) ?_
  refine ungo rfl rfl rfl ?_
  refine scall Tryz.call43 .nil c_Log ?_
  rintro v46 w ⟨hL, hE⟩; replace hS := hS.step hE; clear hE
  refine ungo rfl rfl rfl ?_
  refine scall Tryz.call35 (.cons rfl (.cons rfl .nil)) (c_Msgs (sl_msgs (hS.row mv) rfl (by decide)) hL) ?_
  rintro _ w ⟨rfl, hE⟩; replace hS := hS.step hE; clear hE
  refine sv (yAnd rfl (fun hB => rfl) rfl) ?_
  refine sv (yAsg rfl) ?_
  refine nil ?_
  show Code.wp _ _ _ _ _
  refine wp_ret ?_
  exact retV (res1 rfl rfl) hS.ext
end Go.Proofs.YtmoilbakmlekbaaGreatDoor

/- part A18 -/
namespace Bx
open Go Go.RowKit
/-- The messages, the last one first, with their places. -/
def bk (log : List Msg) : Nat → List (Int × Msg)
  | 0 => []
  | k + 1 => ((k : Int), log.getD k ⟨0, 0, 0, 0, 0⟩) :: bk log k
end Bx

/- part A22 -/
namespace Bx
open Go Go.RowKit
structure InTime (t : Task) (now : Int) (L : List Slot) : Prop where
  towns : L.map (·.town) = wetL t
  fits : ∀ s ∈ L, s.channel ∈ (twn t s.town).chans ∧ now ≤ s.sent ∧ s.sent ≤ latestF t s.town s.channel
  room : ∀ s ∈ L, (usedN L s.pl : Int) ≤ (chn t s.channel).room
end Bx

/- part A24 -/
namespace Bx
open Go Go.RowKit
theorem inB_not {a lo hi : Int} : (!inB a lo hi) = outB a lo hi := by
  rw [Bool.eq_iff_iff]
  simp only [Bool.not_eq_true', inB, outB, Bool.and_eq_false_iff, Bool.or_eq_true, decide_eq_true_eq, decide_eq_false_iff_not]
  omega
def errR {α : Type} (nm : α → ByteArray) (rest : α → Int) (l : List α) (i : Nat) (x : α) : Int := if (!isName (nm x)) = true then 6 else if memB (nm x) ((l.take i).map nm) = true then 5 else rest x
theorem errR_form {α : Type} {nm : α → ByteArray} {rest : α → Int} {l : List α} {i : Nat} {x : α} (h : (!isName (nm x)) = true) : errR nm rest l i x = 6 := if_pos h
theorem errR_twice {α : Type} {nm : α → ByteArray} {rest : α → Int} {l : List α} {i k : Nat} {x u : α} (h : (!isName (nm x)) = false) (hu : l[k]? = some u) (hk : k < i) (he : nm u = nm x) : errR nm rest l i x = 5 := by
  unfold errR
  rw [if_neg (by rw [h]; decide), if_pos]
  rw [memB_iff, ← he]
  exact List.mem_map.2 ⟨u, List.mem_of_getElem? (i := k) (by rw [List.getElem?_take, if_pos hk]; exact hu), rfl⟩
theorem errR_rest {α : Type} {nm : α → ByteArray} {rest : α → Int} {l : List α} {i : Nat} {x : α} (h : (!isName (nm x)) = false) (hn : ∀ k, k < i → ∀ u, l[k]? = some u → nm u ≠ nm x) : errR nm rest l i x = rest x := by
  unfold errR
  rw [if_neg (by rw [h]; decide), if_neg]
  rw [memB_iff]
  intro hm
  obtain ⟨u, hu, he⟩ := List.mem_map.1 hm
  obtain ⟨k, hk, rfl⟩ := List.getElem_of_mem hu
  rw [List.length_take] at hk
  rw [List.getElem_take] at he
  exact hn k (by omega) _ (List.getElem?_eq_getElem (by omega)) he
theorem namedR_step {α : Type} {nm : α → ByteArray} {rest : α → Int} {l : List α} {k : Nat} {x : α} (hx : l[k]? = some x) (hd : l.drop k = x :: l.drop (k + 1)) (h0 : errR nm rest l k x = 0) :
    namedR nm rest (l.drop k) ((l.take k).map nm) k = namedR nm rest (l.drop (k + 1)) ((l.take (k + 1)).map nm) ((k + 1 : Nat) : Int) := by
  rw [hd, namedR, namedR_take hx]
  unfold errR at h0
  split at h0
  · cases h0
  split at h0
  · cases h0
  rename_i h1 h2
  rw [if_neg h1, if_neg h2, if_neg (not_not_intro h0)]
  rfl
theorem namedR_hit {α : Type} {nm : α → ByteArray} {rest : α → Int} {l : List α} {k : Nat} {x : α} (hd : l.drop k = x :: l.drop (k + 1)) (h0 : errR nm rest l k x ≠ 0) :
    namedR nm rest (l.drop k) ((l.take k).map nm) k = ((k : Int), errR nm rest l k x) := by
  rw [hd, namedR]
  unfold errR at h0 ⊢
  split
  · rename_i h; rfl
  rename_i h1
  rw [if_neg h1] at h0
  split
  · rfl
  rename_i h2
  rw [if_neg h2] at h0
  rw [if_pos h0]
theorem namedR_end {α : Type} {nm : α → ByteArray} {rest : α → Int} {l : List α} {k : Nat} (hk : l.length ≤ k) : namedR nm rest (l.drop k) ((l.take k).map nm) k = (0, 0) := by
  rw [List.drop_of_length_le hk]; rfl
end Bx

/- part Aw27 -/
namespace Go.Proofs.YtmoilbakmlekbaaGreatDoor
open Go Bx
/-- barrage/barrageref11.in -/
theorem c_rin {a lo hi : Int} {w0 : World} : CV Tryz.prog 66 #[.int .i64 a, .int .i64 lo, .int .i64 hi] w0 (.bool (inB a lo hi)) := by
  refine enter Tryz.func66 rfl Tryz.ntmps66 rfl ?_
  have hS := St.start w0
  refine seq ?_
  refine region ?_
  refine sv (yAsg rfl) ?_
  refine nil ?_
  show Code.wp _ _ _ _ _
  refine seq ?_
  refine region ?_
  refine sv (yMove rfl) ?_
  refine sv (yMove rfl) ?_
  refine sv (yGeq rfl rfl) ?_
  refine sv (yMove rfl) ?_
  refine sg rfl rfl rfl (fun g => (yMove rfl)) (fun v11 g11 => ?_)
  refine sg rfl rfl rfl (fun g => (yMove rfl)) (fun v12 g12 => ?_)
  refine sg rfl rfl rfl (fun g => (yLeq (g11.1 g) (g12.1 g))) (fun v13 g13 => ?_)
  refine sv (yAnd rfl (fun hB => (g13.1 hB)) rfl) ?_
  refine sv (yAsg rfl) ?_
  refine nil ?_
  show Code.wp _ _ _ _ _
  refine wp_ret ?_
  exact retV (res1 rfl rfl) hS.ext
/-- barrage/barrageref11.tick -/
theorem c_rtick {a : Int} {w0 : World} : CV Tryz.prog 73 #[.int .i64 a] w0 (.bool (inB a 0 200000)) := by
  refine enter Tryz.func73 rfl Tryz.ntmps73 rfl ?_
  have hS := St.start w0
  refine seq ?_
  refine region ?_
  refine sv (yAsg rfl) ?_
  refine nil ?_
  show Code.wp _ _ _ _ _
  refine seq ?_
  refine region ?_
  refine sv (yMove rfl) ?_
  refine scall Tryz.call66 (.cons rfl (.cons rfl (.cons rfl .nil))) c_rin ?_
  rintro _ w ⟨rfl, hE⟩; replace hS := hS.step hE; clear hE
  refine sv (yAsg rfl) ?_
  refine nil ?_
  show Code.wp _ _ _ _ _
  refine wp_ret ?_
  exact retV (res1 rfl rfl) hS.ext
end Go.Proofs.YtmoilbakmlekbaaGreatDoor

/- part LibB1 -/
namespace Bx
open Go Go.RowKit
def fromA (a : Option Addr) (cap i k : Nat) : Option Addr := if cap = i then a else a.map (·.add (i * k))
section
variable {P : Program} {ρ : Operand → Value} {w : World} {ty : TypeId}
theorem yFromA {T E : TypeId} {x xi : Operand} {a : Option Addr} {cap i k m : Nat} {kd : IntKind} (hx : ρ x = .slice a m cap) (hi : ρ xi = .int kd (i : Int)) (hu : P.underlying T = some (.slice E)) (hs : ∀ w, (Go.sizeOf E).run P w = .ok k w) (hm : i ≤ m) :
    Y P ρ (.slice T x (some xi) none none) ty w (.slice (fromA a cap i k) (m - i) (cap - i)) w := by
  have hb : (0 : Int) ≤ (i : Int) ∧ (i : Int) ≤ (m : Int) := ⟨by omega, by omega⟩
  simp only [Y, xop, execOp, Option.map_some, Option.map_none, hx, hi, Instr.sliceAt, run_underlying hu, Sem.run_bind, Result.andThen_ok, Instr.slice, Instr.sliceBounds, Instr.sliceBound, asIntOf, Sem.run_pure, Sem.run_ite, hb, and_self, if_true, hs, Int.toNat_natCast, fromA]
end
theorem Sl.drop {α : Type} {w : World} {k : Nat} {R : World → List Value → α → Prop} {a : Option Addr} {n cap i : Nat} {l : List α} (h : Sl w k R (.slice a n cap) l) (hi : i ≤ n) : Sl w k R (.slice (fromA a cap i k) (n - i) (cap - i)) (l.drop i) := by
  obtain ⟨a', cap', hv, h1, h2, h3⟩ := h
  simp only [Value.slice.injEq] at hv
  obtain ⟨rfl, rfl, rfl⟩ := hv
  refine ⟨_, _, by rw [List.length_drop], by rw [List.length_drop]; omega, by omega, fun j hj => ?_⟩
  rw [List.length_drop] at hj
  obtain ⟨b, o, cs, ha, hlc, hc, hr⟩ := h3 (i + j) (by omega)
  refine ⟨b, o + i * k, cs, ?_, hlc, ?_, by rw [List.getElem_drop]; exact hr⟩
  · unfold fromA
    rw [if_neg (by omega), ha, Option.map_some, addr_add]
  · rw [show o + i * k + j * k = o + (i + j) * k by rw [Nat.add_mul]; omega]; exact hc
theorem Sl.fit {α : Type} {w : World} {k : Nat} {R : World → List Value → α → Prop} {a : Option Addr} {n cap : Nat} {l : List α} (h : Sl w k R (.slice a n cap) l) : n ≤ cap := by
  obtain ⟨a', cap', hv, h1, -⟩ := h
  simp only [Value.slice.injEq] at hv
  omega
end Bx

/- part A26 -/
namespace Bx
open Go Go.RowKit
/-- What is better: which history is left out, how much more room, how much less delay, how much earlier. -/
structure Bett where
  hist : Int
  room : Int
  delay : Int
  earl : Int
structure ChkOk (t : Task) : Prop where
  pol : outB t.polders 0 6 = false
  nch : ¬ (4 : Int) < t.chans.length
  chs : ∀ c ∈ t.chans, isName c.name = true ∧ chanE c = 0
  chn : (t.chans.map (·.name)).Nodup
  ntw : ¬ (8 : Int) < t.towns.length
  tws : ∀ x ∈ t.towns, isName x.name = true ∧ townE t.polders t.chans.length x = 0
  twn : (t.towns.map (·.name)).Nodup
  nfl : outB t.floods.length 1 8 = false
  fls : ∀ l ∈ t.floods, floodE t.polders l = 0
end Bx

/- part A27 -/
namespace Bx
open Go Go.RowKit
/-- A log that is right, with nothing sent behind a tick. -/
structure LogOk (t : Task) (all : List Msg) (T : Int) : Prop where
  ok : wrongL t all 0 0 = 0
  sent : ∀ x ∈ all, x.sent ≤ T
theorem LogOk.msgs {t : Task} {all : List Msg} {T : Int} (h : LogOk t all T) : ∀ x ∈ all, MsgOk t x := (wrongL_ok all 0 0 (Int.le_refl _) h.ok).1
theorem sum_mono {g g' : Int → Int} : ∀ {l : List Int}, (∀ j ∈ l, g' j ≤ g j) → (l.map g').sum ≤ (l.map g).sum
  | [], _ => Int.le_refl _
  | x :: l, h => by
    have := sum_mono fun j hj => h j (List.mem_cons_of_mem x hj)
    have := h x (List.mem_cons_self ..)
    simp only [List.map_cons, List.sum_cons]; omega
def pot (t : Task) (all : List Msg) (T i : Int) : Int := (if lastF all i = stageF t i T then 0 else 1) + (if stageF t i T = 1 then 1 else 0)
def potS (t : Task) (all : List Msg) (T : Int) : Int := ((idxL t).map (pot t all T)).sum
theorem pot_bd (t : Task) (all : List Msg) (T i : Int) : 0 ≤ pot t all T i ∧ pot t all T i ≤ 2 := by unfold pot; split <;> split <;> omega
theorem potS_bd (t : Task) (all : List Msg) (T : Int) : 0 ≤ potS t all T ∧ potS t all T ≤ 2 * t.towns.length := by
  have h1 := sum_mono (l := idxL t) (g' := fun _ => 0) (g := pot t all T) fun j _ => (pot_bd t all T j).1
  have h2 := sum_mono (l := idxL t) (g := fun _ => 2) (g' := pot t all T) fun j _ => (pot_bd t all T j).2
  rw [sum_const] at h1 h2
  rw [idxL_len] at h1 h2
  unfold potS
  omega
def restA (t : Task) (log : List Msg) (now : Int) : Nat → List Msg
  | 0 => log
  | i + 1 => restA t log now i ++ nextF t (restA t log now i) (now + i)
structure RestI (t : Task) (log : List Msg) (now : Int) (i : Nat) : Prop where
  ok : wrongL t (restA t log now i) 0 0 = 0
  sent : ∀ x ∈ restA t log now i, x.sent < now + i
  few : ((restA t log now i).length : Int) + potS t (restA t log now i) (now + i) ≤ 116
theorem RestI.wrong {t : Task} {log : List Msg} {now : Int} {i : Nat} (h : RestI t log now i) : wrongF t (restA t log now i) = 0 := by
  have := h.few
  have := (potS_bd t (restA t log now i) (now + i)).1
  unfold wrongF
  rw [if_neg (by omega)]
  exact h.ok
theorem late_no {log : List Msg} {now : Int} (h : ∀ x ∈ log, x.sent ≤ now) (h0 : 0 ≤ now) : lateB log now = false := by
  unfold lateB
  rw [Bool.and_eq_false_iff]
  cases hq : log.getLast? with
  | none => exact .inr (by simpa using h0)
  | some z => exact .inr (by simpa using h z (List.mem_of_getLast? hq))
theorem RestI.next {t : Task} (hck : (checkA t).2.2 = 0) {log : List Msg} {now : Int} (hn : 0 ≤ now ∧ now ≤ 199800) {i : Nat} (hi : i < 40) (h : RestI t log now i) : nextR t (restA t log now i) (now + i) = (nextF t (restA t log now i) (now + i), 0) := by
  have e : nextE t (restA t log now i) (now + i) = 0 := by
    unfold nextE
    rw [if_neg (fun k => k hck), if_neg (fun k => k h.wrong), if_neg]
    rw [outB_false.2 (show 0 ≤ now + (i : Int) ∧ now + (i : Int) ≤ 200000 by omega), late_no (fun x hx => by have := h.sent x hx; omega) (by omega)]
    decide
  unfold nextR
  rw [if_neg (fun k => k e)]
end Bx

/- part A28 -/
namespace Bx
open Go Go.RowKit
theorem LogOk.i64 {t : Task} (ht : TaskOk t) {all : List Msg} {T : Int} (h : LogOk t all T) (hl : all.length ≤ 100000) : ∀ m ∈ all, MsgI m := fun m hm => by
  have h1 := h.msgs m hm
  obtain ⟨k, hk, rfl⟩ := List.getElem_of_mem hm
  have h2 := (wrongL_ok all 0 0 (Int.le_refl _) h.ok).2.1 k _ (List.getElem?_eq_getElem hk)
  have h3 := h1.town
  have h4 := h1.stage
  have h5 := h1.chan
  have h6 := h1.sent
  have := ht.ntw
  have := ht.nch
  refine ⟨⟨by omega, by omega⟩, ⟨by omega, by omega⟩, ⟨by omega, by omega⟩, ⟨by omega, by omega⟩, ⟨by omega, by omega⟩⟩
end Bx

/- part A29 -/
namespace Bx
open Go Go.RowKit
theorem Rows.app {α : Type} {w : World} {k : Nat} {R : World → List Value → α → Prop} : ∀ {c1 c2 : List (List Value)} {l1 l2 : List α}, Bx.Rows w k R c1 l1 → Bx.Rows w k R c2 l2 → Bx.Rows w k R (c1 ++ c2) (l1 ++ l2)
  | [], _, [], _, _, h => h
  | _ :: _, _, _ :: _, _, ⟨h1, h2, h3⟩, h => ⟨h1, h2, Rows.app h3 h⟩
  | [], _, _ :: _, _, h, _ => h.elim
  | _ :: _, _, [], _, h, _ => h.elim
end Bx

/- part LibB2 -/
namespace Bx
open Go Go.RowKit
theorem StX.takeI {S : List Nat} {w0 w : World} {A B L : List Item} {x : Item} (h : StX S w0 w (packI (A ++ x :: B) :: L)) : StX S w0 w (x :: packI (A ++ B) :: L) := by
  have h1 := h.unpack
  have h2 : StX S w0 w ((A ++ B) ++ (x :: L)) := h1.perm (by
    rw [List.append_assoc, List.append_assoc, List.cons_append]
    refine List.Perm.append_left A ?_
    exact (List.perm_middle (a := x) (l₁ := B) (l₂ := L)).symm)
  exact h2.pack.perm (List.Perm.swap _ _ _)
theorem StX.putI {S : List Nat} {w0 w : World} {A B L : List Item} {x : Item} (h : StX S w0 w (x :: packI (A ++ B) :: L)) : StX S w0 w (packI (A ++ x :: B) :: L) := by
  have h1 := (h.perm (List.Perm.swap _ _ _)).unpack
  have h2 : StX S w0 w ((A ++ x :: B) ++ L) := h1.perm (by
    rw [List.append_assoc, List.append_assoc, List.cons_append]
    refine List.Perm.append_left A ?_
    exact List.perm_middle (a := x) (l₁ := B) (l₂ := L))
  exact h2.pack
/-- The inner rows of numbers. -/
def inR (v : Value) (z : List Int) : Item := rowI v 3 1 z.length (z.flatMap encI)
def inI (vs : List Value) (zs : List (List Int)) : List Item := List.zipWith inR vs zs
theorem inI_snoc {vs : List Value} {zs : List (List Int)} (h : vs.length = zs.length) (v : Value) (z : List Int) : inI (vs ++ [v]) (zs ++ [z]) = inI vs zs ++ [inR v z] := by
  unfold inI
  rw [List.zipWith_append h]; rfl
theorem inI_split {vs : List Value} {zs : List (List Int)} {k : Nat} {v : Value} {z : List Int} (hv : vs[k]? = some v) (hz : zs[k]? = some z) : inI vs zs = inI (vs.take k) (zs.take k) ++ inR v z :: inI (vs.drop (k + 1)) (zs.drop (k + 1)) := by
  have e1 : vs = vs.take k ++ v :: vs.drop (k + 1) := by
    have := cut_at hv
    rw [List.append_assoc, List.singleton_append] at this
    exact this.symm
  have e2 : zs = zs.take k ++ z :: zs.drop (k + 1) := by
    have := cut_at hz
    rw [List.append_assoc, List.singleton_append] at this
    exact this.symm
  have hl : (vs.take k).length = (zs.take k).length := by
    have h1 := (List.getElem?_eq_some_iff.1 hv).1
    have h2 := (List.getElem?_eq_some_iff.1 hz).1
    rw [List.length_take, List.length_take]; omega
  unfold inI
  conv => lhs; rw [e1, e2]
  rw [List.zipWith_append hl]; rfl
/-- What rows of rows say, read as a slice of slices. -/
theorem sl_rows2 {R : World → List Value → List Int → Prop} (hR : ∀ w v z, Sl w 1 RInt v z → R w [v] z) {w : World} {E : TypeId} {lv : Value} {vs : List Value} {zs : List (List Int)} (hl : vs.length = zs.length) (hrow : w.ownsRow 0 E 1 lv zs.length vs) (hin : ∀ it ∈ inI vs zs, it.ok w) (hz : ∀ z ∈ zs, ∀ x ∈ z, I64 x) : Sl w 1 R lv zs := by
  have key : ∀ (vs : List Value) (zs : List (List Int)), vs.length = zs.length → (∀ it ∈ inI vs zs, it.ok w) → (∀ z ∈ zs, ∀ x ∈ z, I64 x) → Bx.Rows w 1 R (vs.map fun v => [v]) zs := by
    intro vs
    induction vs with
    | nil => intro zs h _ _; cases zs with
      | nil => trivial
      | cons z zs => simp at h
    | cons v vs ih => intro zs h h1 h2; cases zs with
      | nil => simp at h
      | cons z zs =>
        have h0 : (inR v z).ok w := h1 _ (by unfold inI; rw [List.zipWith_cons_cons]; exact List.mem_cons_self ..)
        have hr : w.ownsRow 0 3 1 v z.length (z.flatMap encI) := h0
        exact ⟨rfl, hR _ _ _ (sl_ints hr rfl (h2 z (List.mem_cons_self ..))), ih zs (by simpa using h) (fun it hit => h1 it (by unfold inI; rw [List.zipWith_cons_cons]; exact List.mem_cons_of_mem _ hit)) (fun y hy => h2 y (List.mem_cons_of_mem _ hy))⟩
  have e : ∀ vs : List Value, (vs.map fun v => [v]).flatten = vs := by
    intro vs
    induction vs with
    | nil => rfl
    | cons v vs ih => rw [List.map_cons, List.flatten_cons, ih]; rfl
  exact sl_of_row (by rw [e]; exact hrow) (key vs zs hl hin hz) rfl
end Bx
namespace Bx
open Go Go.RowKit
theorem out_cell {w : World} {g z : Nat} {vs : List Value} {v : Value} (h : Cells w g 0 vs) (hv : vs[z]? = some v) : w.cell? ⟨g, z * 1, none⟩ = some v := by
  have := h z v hv
  rwa [Nat.zero_add, ← Nat.mul_one z] at this
end Bx

/- part A31 -/
namespace Bx
open Go Go.RowKit
/-- What the zones are: in each those of the towns whose zone it is. -/
structure ZonesOf (f : Int → Int) (l : List Int) (zs : List (List Int)) : Prop where
  get : ∀ k, k < zs.length → zs[k]? = some (l.filter fun i => decide (f i = (k : Int)))
  lt : ∀ i ∈ l, f i < zs.length
  last : 0 < zs.length → ∃ i ∈ l, f i = (zs.length : Int) - 1
/-- How often a number is in a list, and where. -/
def cz (i : Int) (k : Int) (z : List Int) (s : Int × Int) : Int × Int := z.foldl (fun s x => if x = i then (s.1 + 1, k) else s) s
end Bx

/- part Aw38 -/
namespace Go.Proofs.YtmoilbakmlekbaaGreatDoor
open Go Bx
/-- barrage/barrageref01.Ints -/
theorem c_Ints {la lb : List Int} {va vb : Value} {w0 : World} (ha : Sl w0 1 RInt va la) (hb : Sl w0 1 RInt vb lb) : CV Tryz.prog 41 #[va, vb] w0 (.bool (decide (la = lb))) := by
  obtain ⟨aa, ca, rfl, hca, hma, hela⟩ := ha
  obtain ⟨ab, cb, rfl, hcb, hmb, helb⟩ := hb
  refine enter Tryz.func41 rfl Tryz.ntmps41 rfl ?_
  have hS := St.start w0
  refine seq ?_
  refine region ?_
  refine sv (yAsg rfl) ?_
  refine nil ?_
  show Code.wp _ _ _ _ _
  refine seq ?_
  refine seq ?_
  refine region ?_
  refine sv (yMove rfl) ?_
  refine sv (yLen rfl Tryz.underlying34) ?_
  refine sv (yMove rfl) ?_
  refine sv (yLen rfl Tryz.underlying34) ?_
  refine sv (yNeq rfl rfl) ?_
  refine nil ?_
  show Code.wp _ _ _ _ _
  refine cond rfl (fun c10 => ?_) (fun c10 => ?_)
  ·
    simp only [BS, ne_eq] at c10
    refine seq ?_
    refine region ?_
    refine sv (yAsg rfl) ?_
    refine nil ?_
    show Code.wp _ _ _ _ _
    refine wp_ret (thenR ?_)
    exact retV (res1 rfl (eqB (by rw [decide_eq_false (fun h => by rw [h] at c10; exact c10 rfl)]))) hS.ext
  ·
    simp only [BS, ne_eq] at c10
    refine skip ?_
    show Code.wp _ _ _ _ _
    refine seq ?_
    refine seq ?_
    refine region ?_
    refine sv (yAsg rfl) ?_
    refine nil ?_
    show Code.wp _ _ _ _ _
    refine block ?_
    refine loop (fun f w zz => ∃ (k : Nat), f 0 = .slice aa la.length ca ∧ f 1 = .slice ab lb.length cb ∧ f 5 = .int .i64 (k : Int) ∧ StX [] w0 w [] ∧ (k ≤ la.length) ∧ (∀ i, i < k → la[i]? = lb[i]?) ∧ zz = la.length - k) _ ⟨_, rfl, 0, rfl, rfl, rfl, hS, (Nat.zero_le _), (fun i hi => absurd hi (Nat.not_lt_zero i)), rfl⟩ ?_
    clear hS
    rintro f w _ ⟨k, h0, h1, h5, hS, hk, hI, rfl⟩
    refine seq ?_
    refine seq ?_
    refine region ?_
    refine sv (yMove h5) ?_
    refine sv (yMove h0) ?_
    refine sv (yLen rfl Tryz.underlying34) ?_
    refine sv (yLss rfl rfl) ?_
    refine nil ?_
    show Code.wp _ _ _ _ _
    refine cond rfl (fun c14 => ?_) (fun c14 => ?_)
    ·
      simp only [BS, ne_eq] at c14
      obtain ⟨x, hx, hd⟩ := drop_of (l := la) (k := k) (by omega)
      obtain ⟨b, o, cs, ha, hlen, hcs, hR⟩ := hela (k) (by omega)
      obtain rfl : x = la[k] := (List.getElem?_eq_some_iff.1 hx).2.symm
      generalize la[k] = x at hx hd hR
      obtain ⟨rfl, _⟩ := hR
      obtain ⟨y, hxq, hdq⟩ := drop_of (l := lb) (k := k) (by omega)
      obtain ⟨bq, oq, csq, haq, hlenq, hcsq, hRq⟩ := helb (k) (by omega)
      obtain rfl : y = lb[k] := (List.getElem?_eq_some_iff.1 hxq).2.symm
      generalize lb[k] = y at hxq hdq hRq
      obtain ⟨rfl, _⟩ := hRq
      refine skip ?_
      show Code.wp _ _ _ _ _
      refine seq ?_
      refine block ?_
      refine seq ?_
      refine region_draw mixed (by kernel_rfl) hS ?_
      refine qv (fun w hS => (yMove h0)) ?_
      refine qv (fun w hS => (yMove h5)) ?_
      refine qv (fun w hS => (yIxa rfl ha rfl Tryz.runUnderlying34 Tryz.sizeOf3 (by omega) (by omega))) ?_
      refine qv (fun w hS => (yLd rfl Tryz.isAgg3 ((hcs.ext hS.ext).one))) ?_
      refine qv (fun w hS => (yMove h1)) ?_
      refine qv (fun w hS => (yMove h5)) ?_
      refine qv (fun w hS => (yIxa rfl haq rfl Tryz.runUnderlying34 Tryz.sizeOf3 (by omega) (by omega))) ?_
      refine qv (fun w hS => (yLd rfl Tryz.isAgg3 ((hcsq.ext hS.ext).one))) ?_
      refine qv (fun w hS => (yNeq rfl rfl)) ?_
      clear hS; refine qnil (fun w hS => ?_)
      show Code.wp _ _ _ _ _
      refine cond rfl (fun c25 => ?_) (fun c25 => ?_)
      ·
        simp only [BS, ne_eq] at c25
        have hne : x ≠ y := fun h => by subst h; simp at c25
        refine seq ?_
        refine region ?_
        refine sv (yAsg rfl) ?_
        refine nil ?_
        show Code.wp _ _ _ _ _
        refine wp_ret (blockR (thenR (thenR (blockR (thenR ?_)))))
        exact retV (res1 rfl (eqB (by rw [decide_eq_false (ne_of_get hx hxq hne)]))) hS.ext
      ·
        simp only [BS, ne_eq] at c25
        have hxy : x = y := c25
        refine skip ?_
        show Code.wp _ _ _ _ _
        refine region ?_
        refine sv (yMove h5) ?_
        refine sv (yAdd rfl rfl ⟨by omega, by omega⟩) ?_
        refine sv (yAsg rfl) ?_
        refine nil ?_
        exact ⟨_, _, rfl, ⟨k + 1, h0, h1, rfl, hS, (by omega), (snoc hI (by rw [hx, hxq, hxy])), rfl⟩, by omega⟩
    ·
      simp only [BS, ne_eq] at c14
      refine exit ?_
      show Code.wp _ _ _ _ _
      refine seq ?_
      refine region ?_
      refine sv (yAsg rfl) ?_
      refine nil ?_
      show Code.wp _ _ _ _ _
      refine wp_ret ?_
      exact retV (res1 rfl (eqB (by rw [decide_eq_true (eq_of_get (by omega) (fun i hi => hI i (by omega)))]))) hS.ext
/-- barrage/barrageref11.Lists -/
theorem c_Lists {la lb : List (List Int)} {va vb : Value} {w0 : World} (ha : Sl w0 1 RRow va la) (hb : Sl w0 1 RRow vb lb) : CV Tryz.prog 30 #[va, vb] w0 (.bool (decide (la = lb))) := by
  obtain ⟨aa, ca, rfl, hca, hma, hela⟩ := ha
  obtain ⟨ab, cb, rfl, hcb, hmb, helb⟩ := hb
  refine enter Tryz.func30 rfl Tryz.ntmps30 rfl ?_
  have hS := St.start w0
  refine seq ?_
  refine region ?_
  refine sv (yAsg rfl) ?_
  refine nil ?_
  show Code.wp _ _ _ _ _
  refine seq ?_
  refine seq ?_
  refine region ?_
  refine sv (yMove rfl) ?_
  refine sv (yLen rfl Tryz.underlying24) ?_
  refine sv (yMove rfl) ?_
  refine sv (yLen rfl Tryz.underlying24) ?_
  refine sv (yNeq rfl rfl) ?_
  refine nil ?_
  show Code.wp _ _ _ _ _
  refine cond rfl (fun c10 => ?_) (fun c10 => ?_)
  ·
    simp only [BS, ne_eq] at c10
    refine seq ?_
    refine region ?_
    refine sv (yAsg rfl) ?_
    refine nil ?_
    show Code.wp _ _ _ _ _
    refine wp_ret (thenR ?_)
    exact retV (res1 rfl (eqB (by rw [decide_eq_false (fun h => by rw [h] at c10; exact c10 rfl)]))) hS.ext
  ·
    simp only [BS, ne_eq] at c10
    refine skip ?_
    show Code.wp _ _ _ _ _
    refine seq ?_
    refine seq ?_
    refine region ?_
    refine sv (yAsg rfl) ?_
    refine nil ?_
    show Code.wp _ _ _ _ _
    refine block ?_
    refine loop (fun f w zz => ∃ (k : Nat), f 0 = .slice aa la.length ca ∧ f 1 = .slice ab lb.length cb ∧ f 5 = .int .i64 (k : Int) ∧ StX [] w0 w [] ∧ (k ≤ la.length) ∧ (∀ i, i < k → la[i]? = lb[i]?) ∧ zz = la.length - k) _ ⟨_, rfl, 0, rfl, rfl, rfl, hS, (Nat.zero_le _), (fun i hi => absurd hi (Nat.not_lt_zero i)), rfl⟩ ?_
    clear hS
    rintro f w _ ⟨k, h0, h1, h5, hS, hk, hI, rfl⟩
    refine seq ?_
    refine seq ?_
    refine region ?_
    refine sv (yMove h5) ?_
    refine sv (yMove h0) ?_
    refine sv (yLen rfl Tryz.underlying24) ?_
    refine sv (yLss rfl rfl) ?_
    refine nil ?_
    show Code.wp _ _ _ _ _
    refine cond rfl (fun c14 => ?_) (fun c14 => ?_)
    ·
      simp only [BS, ne_eq] at c14
      obtain ⟨x, hx, hd⟩ := drop_of (l := la) (k := k) (by omega)
      obtain ⟨b, o, cs, ha, hlen, hcs, hR⟩ := hela (k) (by omega)
      obtain rfl : x = la[k] := (List.getElem?_eq_some_iff.1 hx).2.symm
      generalize la[k] = x at hx hd hR
      obtain ⟨xv, rfl, hxsl⟩ := hR
      obtain ⟨y, hxq, hdq⟩ := drop_of (l := lb) (k := k) (by omega)
      obtain ⟨bq, oq, csq, haq, hlenq, hcsq, hRq⟩ := helb (k) (by omega)
      obtain rfl : y = lb[k] := (List.getElem?_eq_some_iff.1 hxq).2.symm
      generalize lb[k] = y at hxq hdq hRq
      obtain ⟨yv, rfl, hysl⟩ := hRq
      refine skip ?_
      show Code.wp _ _ _ _ _
      refine seq ?_
      refine block ?_
      refine seq ?_
      refine region_draw mixed (by kernel_rfl) hS ?_
      refine qv (fun w hS => (yMove h0)) ?_
      refine qv (fun w hS => (yMove h5)) ?_
      refine qv (fun w hS => (yIxa rfl ha rfl Tryz.runUnderlying24 Tryz.sizeOf34 (by omega) (by omega))) ?_
      refine qv (fun w hS => (yLd rfl Tryz.isAgg34 ((hcs.ext hS.ext).one))) ?_
      refine qv (fun w hS => (yMove h1)) ?_
      refine qv (fun w hS => (yMove h5)) ?_
      refine qv (fun w hS => (yIxa rfl haq rfl Tryz.runUnderlying24 Tryz.sizeOf34 (by omega) (by omega))) ?_
      refine qv (fun w hS => (yLd rfl Tryz.isAgg34 ((hcsq.ext hS.ext).one))) ?_
      refine qcall Tryz.call41 (.cons rfl (.cons rfl .nil)) (fun w hS => (c_Ints (hxsl.ext RInt.stays hS.ext) (hysl.ext RInt.stays hS.ext))) ?_
      refine qv (fun w hS => (yNot rfl)) ?_
      clear hS; refine qnil (fun w hS => ?_)
      show Code.wp _ _ _ _ _
      refine cond rfl (fun c26 => ?_) (fun c26 => ?_)
      ·
        simp only [BS, ne_eq] at c26
        have hne : x ≠ y := c26
        refine seq ?_
        refine region ?_
        refine sv (yAsg rfl) ?_
        refine nil ?_
        show Code.wp _ _ _ _ _
        refine wp_ret (blockR (thenR (thenR (blockR (thenR ?_)))))
        exact retV (res1 rfl (eqB (by rw [decide_eq_false (ne_of_get hx hxq hne)]))) hS.ext
      ·
        simp only [BS, ne_eq] at c26
        have hxy : x = y := c26
        refine skip ?_
        show Code.wp _ _ _ _ _
        refine region ?_
        refine sv (yMove h5) ?_
        refine sv (yAdd rfl rfl ⟨by omega, by omega⟩) ?_
        refine sv (yAsg rfl) ?_
        refine nil ?_
        exact ⟨_, _, rfl, ⟨k + 1, h0, h1, rfl, hS, (by omega), (snoc hI (by rw [hx, hxq, hxy])), rfl⟩, by omega⟩
    ·
      simp only [BS, ne_eq] at c14
      refine exit ?_
      show Code.wp _ _ _ _ _
      refine seq ?_
      refine region ?_
      refine sv (yAsg rfl) ?_
      refine nil ?_
      show Code.wp _ _ _ _ _
      refine wp_ret ?_
      exact retV (res1 rfl (eqB (by rw [decide_eq_true (eq_of_get (by omega) (fun i hi => hI i (by omega)))]))) hS.ext
end Go.Proofs.YtmoilbakmlekbaaGreatDoor

/- part A35 -/
namespace Bx
open Go Go.RowKit
structure BlkOk (t : Task) (now : Int) (l : List Int) : Prop where
  sub : l.Sublist (wetL t)
  few : (plT t now).slots (chL t) l < l.length
  plan : (planR t now).2 = 9
  rest : ∀ i, i < l.length → ((l.take i ++ l.drop (i + 1)).length : Int) ≤ (plT t now).slots (chL t) (l.take i ++ l.drop (i + 1))
end Bx

/- part A36 -/
namespace Bx
open Go Go.RowKit
structure BRow where
  level : Int
  volume : Int
structure Pol where
  name : ByteArray
  sill : Int
  take : Int
  room : Int
structure Bas where
  rows : List BRow
  leak : Int
  crest : Int
  over : Int
  pols : List Pol
structure BSt where
  volume : Int
  filled : List Int
structure BTk where
  outer : Int
  river : Int
  out : Int
structure BFl where
  river : Int
  over : Int
  leak : Int
  out : Int
  taken : List Int
def browC (x : BRow) : List Value := [.int .i64 x.level, .int .i64 x.volume]
def RBrow (_ : World) (cs : List Value) (x : BRow) : Prop := cs = browC x ∧ I64 x.level ∧ I64 x.volume
theorem RBrow.stays : Stays RBrow := fun _ _ _ _ _ h => h
def polC (x : Pol) : List Value := [.string x.name, .int .i64 x.sill, .int .i64 x.take, .int .i64 x.room]
def RPol (_ : World) (cs : List Value) (x : Pol) : Prop := cs = polC x ∧ x.name.size ≤ 9223372036854775807 ∧ I64 x.sill ∧ I64 x.take ∧ I64 x.room
theorem RPol.stays : Stays RPol := fun _ _ _ _ _ h => h
def RBas (w : World) (cs : List Value) (b : Bas) : Prop := ∃ rv pv, cs = [rv, .int .i64 b.leak, .int .i64 b.crest, .int .i64 b.over, pv] ∧ Sl w 2 RBrow rv b.rows ∧ I64 b.leak ∧ I64 b.crest ∧ I64 b.over ∧ Sl w 4 RPol pv b.pols
theorem RBas.stays : Stays RBas := fun _ _ _ _ e ⟨rv, pv, h1, h2, h3, h4, h5, h6⟩ => ⟨rv, pv, h1, h2.ext RBrow.stays e, h3, h4, h5, h6.ext RPol.stays e⟩
theorem RBas.ext {w w' : World} {cs : List Value} {b : Bas} (h : RBas w cs b) (e : Ext w w') : RBas w' cs b := RBas.stays _ _ _ _ e h
def RBst (w : World) (cs : List Value) (s : BSt) : Prop := ∃ fv, cs = [.int .i64 s.volume, fv] ∧ I64 s.volume ∧ Sl w 1 RInt fv s.filled ∧ Room s.filled.length 8
theorem RBst.stays : Stays RBst := fun _ _ _ _ e ⟨fv, h1, h2, h3, h4⟩ => ⟨fv, h1, h2, h3.ext RInt.stays e, h4⟩
theorem RBst.ext {w w' : World} {cs : List Value} {b : BSt} (h : RBst w cs b) (e : Ext w w') : RBst w' cs b := RBst.stays _ _ _ _ e h
def btkC (x : BTk) : List Value := [.int .i64 x.outer, .int .i64 x.river, .int .i64 x.out]
def RBtk (_ : World) (cs : List Value) (x : BTk) : Prop := cs = btkC x ∧ I64 x.outer ∧ I64 x.river ∧ I64 x.out
theorem RBtk.stays : Stays RBtk := fun _ _ _ _ _ h => h
def RTks (w : World) (cs : List Value) (l : List BTk) : Prop := ∃ v, cs = [v] ∧ Sl w 3 RBtk v l
theorem RTks.stays : Stays RTks := fun _ _ _ _ e ⟨v, h1, h2⟩ => ⟨v, h1, h2.ext RBtk.stays e⟩
def brow (b : Bas) (i : Nat) : BRow := b.rows.getD i ⟨0, 0⟩
theorem brow_get {b : Bas} {i : Nat} (h : i < b.rows.length) : b.rows[i]? = some (brow b i) := by simp [brow, List.getD, h]
/-- The first index from k on, of m, with a number that is not 0. -/
def firstN (f : Nat → Int) : Nat → Nat → Int × Int
  | 0, _ => (0, 0)
  | m + 1, k => if f k ≠ 0 then (k, f k) else firstN f m (k + 1)
theorem firstN_step {f : Nat → Int} {m k : Nat} (h : f k = 0) : firstN f (m + 1) k = firstN f m (k + 1) := by rw [firstN, if_neg (fun k => k h)]
theorem firstN_hit {f : Nat → Int} {m k : Nat} (h : f k ≠ 0) : firstN f (m + 1) k = ((k : Int), f k) := by rw [firstN, if_pos h]
theorem firstN_ok {f : Nat → Int} : ∀ {m k : Nat}, (firstN f m k).2 = 0 → ∀ i, k ≤ i → i < k + m → f i = 0
  | 0, k, _, i, h1, h2 => by omega
  | m + 1, k, h, i, h1, h2 => by
    by_cases h0 : f k = 0
    · rw [firstN_step h0] at h
      by_cases hk : i = k
      · rw [hk]; exact h0
      · exact firstN_ok h i (by omega) (by omega)
    · rw [firstN_hit h0] at h
      exact absurd h h0
def lvB (b : Bas) (i : Nat) : Int := (brow b i).level
def vlB (b : Bas) (i : Nat) : Int := (brow b i).volume
def rowE (b : Bas) (i : Nat) : Int := if (outB (lvB b i) (-20000) 20000 || outB (vlB b i) 0 1000000000) = true then 7 else if 0 < i ∧ (lvB b i ≤ lvB b (i - 1) ∨ vlB b i ≤ vlB b (i - 1)) then 2 else 0
def bpolE (b : Bas) (x : Pol) : Int := if (outB x.sill (lvB b 0) 20000 || outB x.take 0 10000 || outB x.room 0 1000000000) = true then 7 else 0
/-- A basin that is wide enough for a rate. -/
def WideB (b : Bas) (r : Int) : Prop := ∀ i, i < b.rows.length - 1 → r * (lvB b (i + 1) - lvB b i) ≤ vlB b (i + 1) - vlB b i
instance (b : Bas) (r : Int) : Decidable (WideB b r) := Nat.decidableBallLT _ _
def greatB (b : Bas) (l : List Pol) : Int := l.foldl (fun m x => max m x.take) b.leak
def checkB (b : Bas) : Int × Int × Int :=
  if outB b.rows.length 2 12 = true then (1, 0, 3)
  else if (firstN (rowE b) b.rows.length 0).2 ≠ 0 then (1, firstN (rowE b) b.rows.length 0)
  else if (outB b.leak 0 10000 || outB b.over 0 10000 || outB b.crest (-20000) 20000) = true then (2, 0, 7)
  else if (6 : Int) < b.pols.length then (3, 0, 3)
  else if (namedR (·.name) (bpolE b) b.pols [] 0).2 ≠ 0 then (3, namedR (·.name) (bpolE b) b.pols [] 0)
  else if ¬ WideB b (greatB b b.pols) then (4, 0, 2)
  else (0, 0, 0)
structure BasOk (b : Bas) : Prop where
  len : 2 ≤ b.rows.length ∧ b.rows.length ≤ 12
  lv : ∀ i, i < b.rows.length → -20000 ≤ lvB b i ∧ lvB b i ≤ 20000
  vl : ∀ i, i < b.rows.length → 0 ≤ vlB b i ∧ vlB b i ≤ 1000000000
  lvs : ∀ i, i + 1 < b.rows.length → lvB b i < lvB b (i + 1)
  vls : ∀ i, i + 1 < b.rows.length → vlB b i < vlB b (i + 1)
  leak : 0 ≤ b.leak ∧ b.leak ≤ 10000
  over : 0 ≤ b.over ∧ b.over ≤ 10000
  crest : -20000 ≤ b.crest ∧ b.crest ≤ 20000
  npol : b.pols.length ≤ 6
  pol : ∀ x ∈ b.pols, (lvB b 0 ≤ x.sill ∧ x.sill ≤ 20000) ∧ (0 ≤ x.take ∧ x.take ≤ 10000) ∧ 0 ≤ x.room ∧ x.room ≤ 1000000000
  wleak : WideB b b.leak
  wpol : ∀ x ∈ b.pols, WideB b x.take
theorem great_ge {b : Bas} : ∀ (l : List Pol) (m : Int), m ≤ l.foldl (fun m x => max m x.take) m ∧ ∀ x ∈ l, x.take ≤ l.foldl (fun m x => max m x.take) m
  | [], m => ⟨Int.le_refl _, fun _ h => nomatch h⟩
  | x :: l, m => by
    obtain ⟨h1, h2⟩ := great_ge (b := b) l (max m x.take)
    rw [List.foldl_cons]
    refine ⟨by omega, fun y hy => ?_⟩
    rcases List.mem_cons.1 hy with rfl | hy
    · omega
    · exact h2 y hy
theorem great_mem {b : Bas} : ∀ (l : List Pol) (m : Int), l.foldl (fun m x => max m x.take) m = m ∨ ∃ x ∈ l, l.foldl (fun m x => max m x.take) m = x.take
  | [], m => .inl rfl
  | x :: l, m => by
    rw [List.foldl_cons]
    rcases great_mem (b := b) l (max m x.take) with h | ⟨y, hy, h⟩
    · rcases Int.le_total m x.take with k | k
      · exact .inr ⟨x, List.mem_cons_self .., by rw [h]; omega⟩
      · exact .inl (by rw [h]; omega)
    · exact .inr ⟨y, List.mem_cons_of_mem _ hy, h⟩
theorem wide_le {b : Bas} {r s : Int} (hl : ∀ i, i + 1 < b.rows.length → lvB b i < lvB b (i + 1)) (h : WideB b s) (hr : r ≤ s) : WideB b r := fun i hi => by
  have h1 := h i hi
  have h2 := hl i (by omega)
  have h3 : r * (lvB b (i + 1) - lvB b i) ≤ s * (lvB b (i + 1) - lvB b i) := Int.mul_le_mul_of_nonneg_right hr (by omega)
  omega
theorem rowE_ok {b : Bas} {i : Nat} (h : rowE b i = 0) : ((-20000 ≤ lvB b i ∧ lvB b i ≤ 20000) ∧ 0 ≤ vlB b i ∧ vlB b i ≤ 1000000000) ∧ (0 < i → lvB b (i - 1) < lvB b i ∧ vlB b (i - 1) < vlB b i) := by
  unfold rowE at h
  split at h
  · simp at h
  · next h1 =>
    split at h
    · simp at h
    · next h2 =>
      simp only [Bool.not_eq_true, Bool.or_eq_false_iff, outB_false] at h1
      exact ⟨h1, fun h0 => by constructor <;> (apply Decidable.byContradiction; intro hc; exact h2 ⟨h0, by omega⟩)⟩
theorem check_ok {b : Bas} (h : (checkB b).2.2 = 0) : BasOk b := by
  unfold checkB at h
  split at h
  · simp at h
  next h1 =>
  split at h
  next h2 => exact absurd h h2
  next h2 =>
  split at h
  · simp at h
  next h3 =>
  split at h
  · simp at h
  next h4 =>
  split at h
  next h5 => exact absurd h h5
  next h5 =>
  split at h
  · simp at h
  next h6 =>
  simp only [Bool.not_eq_true, Bool.or_eq_false_iff, outB_false] at h1 h3
  have hr := firstN_ok (Decidable.not_not.1 h2)
  have hp := (namedR_ok _ _ _ (Decidable.not_not.1 h5)).1
  have hw : WideB b (greatB b b.pols) := Decidable.not_not.1 h6
  have hR : ∀ i, i < b.rows.length → _ := fun i hi => rowE_ok (hr i (Nat.zero_le _) (by omega))
  have hls : ∀ i, i + 1 < b.rows.length → lvB b i < lvB b (i + 1) := fun i hi => ((hR (i + 1) hi).2 (by omega)).1
  obtain ⟨g1, g2⟩ := great_ge (b := b) b.pols b.leak
  refine ⟨by omega, fun i hi => (hR i hi).1.1, fun i hi => (hR i hi).1.2, hls, fun i hi => ((hR (i + 1) hi).2 (by omega)).2, h3.1.1, h3.1.2, h3.2, by omega, fun x hx => ?_, wide_le hls hw g1, fun x hx => wide_le hls hw (g2 x hx)⟩
  have k := (hp x hx).2.1
  unfold bpolE at k
  split at k
  · simp at k
  · next k1 =>
    simp only [Bool.not_eq_true, Bool.or_eq_false_iff, outB_false] at k1
    exact ⟨k1.1.1, k1.1.2, k1.2⟩
/-- The last of the rows 1 .. n with at most that volume; 0: none. -/
def idxR (b : Bas) (v : Int) : Nat → Nat
  | 0 => 0
  | k + 1 => if vlB b (k + 1) ≤ v then k + 1 else idxR b v k
def idxB (b : Bas) (v : Int) : Nat := idxR b v (b.rows.length - 2)
theorem idxR_le (b : Bas) (v : Int) : ∀ n, idxR b v n ≤ n
  | 0 => Nat.le_refl _
  | k + 1 => by rw [idxR]; split; · exact Nat.le_refl _
                · exact Nat.le_succ_of_le (idxR_le b v k)
theorem idxR_vl (b : Bas) (v : Int) (h0 : vlB b 0 ≤ v) : ∀ n, vlB b (idxR b v n) ≤ v
  | 0 => h0
  | k + 1 => by
    rw [idxR]
    split
    · assumption
    · exact idxR_vl b v h0 k
theorem idxR_eq (b : Bas) (v : Int) {n i : Nat} (hi : i ≤ n) (h1 : i = 0 ∨ vlB b i ≤ v) (h2 : ∀ k, i < k → k ≤ n → v < vlB b k) : idxR b v n = i := by
  induction n with
  | zero => rw [idxR]; omega
  | succ k ih =>
    rw [idxR]
    split
    · next h =>
      by_cases hk : i = k + 1
      · exact hk.symm
      · have := h2 (k + 1) (by omega) (Nat.le_refl _); omega
    · next h =>
      by_cases hk : i = k + 1
      · subst hk
        rcases h1 with h1 | h1
        · omega
        · exact absurd h1 h
      · exact ih (by omega) (fun j hj hj2 => h2 j hj (by omega))
/-- The exact level of a volume: n / d. -/
def exD (b : Bas) (v : Int) : Int := vlB b (idxB b v + 1) - vlB b (idxB b v)
def exN (b : Bas) (v : Int) : Int := lvB b (idxB b v) * exD b v + (v - vlB b (idxB b v)) * (lvB b (idxB b v + 1) - lvB b (idxB b v))
section
variable {b : Bas} (h : BasOk b)
include h
theorem idx_lt (v : Int) : idxB b v + 1 < b.rows.length := by have := idxR_le b v (b.rows.length - 2); have := h.len; unfold idxB; omega
theorem vl_mono {i j : Nat} (hij : i ≤ j) (hj : j < b.rows.length) : vlB b i ≤ vlB b j := by
  induction j with
  | zero => rw [show i = 0 by omega]; exact Int.le_refl _
  | succ j ih =>
    by_cases e : i = j + 1
    · rw [e]; exact Int.le_refl _
    · have := ih (by omega) (by omega); have := h.vls j hj; omega
theorem exD_bd (v : Int) : 1 ≤ exD b v ∧ exD b v ≤ 1000000000 := by
  have hi := idx_lt h v
  have := h.vls _ hi
  have := h.vl (idxB b v) (by omega)
  have := h.vl (idxB b v + 1) hi
  unfold exD; omega
theorem dl_bd (v : Int) : 1 ≤ lvB b (idxB b v + 1) - lvB b (idxB b v) ∧ lvB b (idxB b v + 1) - lvB b (idxB b v) ≤ 40000 := by
  have hi := idx_lt h v
  have := h.lvs _ hi
  have := h.lv (idxB b v) (by omega)
  have := h.lv (idxB b v + 1) hi
  omega
theorem ex_parts {v : Int} (h0 : vlB b 0 ≤ v) (h1 : v ≤ 1000000000) : (0 ≤ v - vlB b (idxB b v) ∧ v - vlB b (idxB b v) ≤ 1000000000) ∧
    (-20000000000000 ≤ lvB b (idxB b v) * exD b v ∧ lvB b (idxB b v) * exD b v ≤ 20000000000000) ∧ (0 ≤ (v - vlB b (idxB b v)) * (lvB b (idxB b v + 1) - lvB b (idxB b v)) ∧ (v - vlB b (idxB b v)) * (lvB b (idxB b v + 1) - lvB b (idxB b v)) ≤ 40000000000000) := by
  have hi := idx_lt h v
  have hv := idxR_vl b v h0 (b.rows.length - 2)
  have hv' : vlB b (idxB b v) ≤ v := hv
  have a1 := h.vl (idxB b v) (by omega)
  have a2 := h.lv (idxB b v) (by omega)
  have hd := exD_bd h v
  have hl := dl_bd h v
  generalize lvB b (idxB b v) = x at *
  generalize lvB b (idxB b v + 1) = y at *
  generalize exD b v = d at *
  generalize vlB b (idxB b v) = z at *
  have b1 : x * d ≤ 20000 * d := Int.mul_le_mul_of_nonneg_right a2.2 (by omega)
  have b2 : -20000 * d ≤ x * d := Int.mul_le_mul_of_nonneg_right a2.1 (by omega)
  have b3 : 0 ≤ (v - z) * (y - x) := Int.mul_nonneg (by omega) (by omega)
  have b4 : (v - z) * (y - x) ≤ (v - z) * 40000 := Int.mul_le_mul_of_nonneg_left hl.2 (by omega)
  omega
theorem exN_bd {v : Int} (h0 : vlB b 0 ≤ v) (h1 : v ≤ 1000000000) : -20000000000000 ≤ exN b v ∧ exN b v ≤ 60000000000000 := by
  have := ex_parts h h0 h1
  unfold exN; omega
theorem wide_sum {r : Int} (hw : WideB b r) : ∀ i, i < b.rows.length → r * (lvB b i - lvB b 0) ≤ vlB b i - vlB b 0
  | 0, _ => by simp
  | i + 1, hi => by
    have h1 := wide_sum hw i (by omega)
    have h2 := hw i (by omega)
    have e : r * (lvB b (i + 1) - lvB b 0) = r * (lvB b i - lvB b 0) + r * (lvB b (i + 1) - lvB b i) := by rw [← Int.mul_add]; congr 1; omega
    omega
/-- A rate for each mm above the lowest row is at most the water above it. -/
theorem ex_wide {r v : Int} (hr : 0 ≤ r) (hw : WideB b r) (h0 : vlB b 0 ≤ v) : r * (exN b v - lvB b 0 * exD b v) ≤ (v - vlB b 0) * exD b v := by
  have hi := idx_lt h v
  have hv : vlB b (idxB b v) ≤ v := idxR_vl b v h0 _
  have hd := exD_bd h v
  have h1 := wide_sum h hw (idxB b v) (by omega)
  have h2 : r * (lvB b (idxB b v + 1) - lvB b (idxB b v)) ≤ exD b v := hw _ (by omega)
  have e : exN b v = lvB b (idxB b v) * exD b v + (v - vlB b (idxB b v)) * (lvB b (idxB b v + 1) - lvB b (idxB b v)) := rfl
  rw [e]
  generalize idxB b v = i at *
  generalize exD b v = d at *
  generalize lvB b i = x at *
  generalize lvB b (i + 1) = y at *
  generalize vlB b i = z at *
  generalize lvB b 0 = x0 at *
  generalize vlB b 0 = z0 at *
  have e2 : r * (x * d + (v - z) * (y - x) - x0 * d) = r * (x - x0) * d + (v - z) * (r * (y - x)) := by
    simp only [Int.mul_add, Int.mul_sub, Int.sub_mul, Int.mul_assoc, Int.mul_left_comm, Int.mul_comm]; omega
  have a1 : r * (x - x0) * d ≤ (z - z0) * d := Int.mul_le_mul_of_nonneg_right h1 (by omega)
  have a2 : (v - z) * (r * (y - x)) ≤ (v - z) * d := Int.mul_le_mul_of_nonneg_left h2 (by omega)
  have e3 : (v - z0) * d = (v - z) * d + (z - z0) * d := by rw [← Int.add_mul]; congr 1; omega
  omega
end
theorem rowE_7 {b : Bas} {i : Nat} (h : (outB (brow b i).level (-20000) 20000 || outB (brow b i).volume 0 1000000000) = true) : rowE b i = 7 := if_pos h
theorem rowE_2 {b : Bas} {i : Nat} (h : (outB (brow b i).level (-20000) 20000 || outB (brow b i).volume 0 1000000000) = false) (h2 : 0 < (i : Int) ∧ ((brow b i).level ≤ (brow b (i - 1)).level ∨ (brow b i).volume ≤ (brow b (i - 1)).volume)) : rowE b i = 2 := by
  unfold rowE lvB vlB
  rw [if_neg (by rw [h]; decide), if_pos ⟨by omega, h2.2⟩]
theorem rowE_0 {b : Bas} {i : Nat} (h : (outB (brow b i).level (-20000) 20000 || outB (brow b i).volume 0 1000000000) = false) (h2 : ¬ 0 < (i : Int) ∨ (¬ (brow b i).level ≤ (brow b (i - 1)).level ∧ ¬ (brow b i).volume ≤ (brow b (i - 1)).volume)) : rowE b i = 0 := by
  unfold rowE lvB vlB
  rw [if_neg (by rw [h]; decide), if_neg (fun k => by omega)]
theorem bpolE_7 {b : Bas} {x : Pol} (h : ((outB x.sill (brow b 0).level 20000 || outB x.take 0 10000) || outB x.room 0 1000000000) = true) : bpolE b x = 7 := if_pos h
theorem bpolE_0 {b : Bas} {x : Pol} (h : ((outB x.sill (brow b 0).level 20000 || outB x.take 0 10000) || outB x.room 0 1000000000) = false) : bpolE b x = 0 := if_neg (by rw [show (outB x.sill (lvB b 0) 20000 || outB x.take 0 10000 || outB x.room 0 1000000000) = false from h]; decide)
theorem great_snoc {b : Bas} {k : Nat} {x : Pol} (hx : b.pols[k]? = some x) : max (greatB b (b.pols.take k)) x.take = greatB b (b.pols.take (k + 1)) := by
  rw [take_snoc hx]; unfold greatB; rw [List.foldl_append]; rfl
theorem great_bd {b : Bas} (h : (outB b.leak 0 10000 || outB b.over 0 10000 || outB b.crest (-20000) 20000) = false) (hp : ∀ x ∈ b.pols, isName x.name = true ∧ bpolE b x = 0 ∧ memB x.name [] = false) : 0 ≤ greatB b b.pols ∧ greatB b b.pols ≤ 10000 := by
  simp only [Bool.or_eq_false_iff, outB_false] at h
  obtain ⟨g1, -⟩ := great_ge (b := b) b.pols b.leak
  unfold greatB
  rcases great_mem (b := b) b.pols b.leak with e | ⟨x, hx, e⟩
  · omega
  · have k := (hp x hx).2.1
    unfold bpolE at k
    split at k
    · simp at k
    · next k1 =>
      simp only [Bool.not_eq_true, Bool.or_eq_false_iff, outB_false] at k1
      omega
theorem great_mul {g a c u v : Int} (h0 : 0 ≤ g) (h1 : g ≤ 10000) (ha : (-20000 ≤ a ∧ a ≤ 20000) ∧ 0 ≤ u ∧ u ≤ 1000000000) (hc : (-20000 ≤ c ∧ c ≤ 20000) ∧ 0 ≤ v ∧ v ≤ 1000000000) (hl : a < c ∧ u < v) : 0 ≤ g * (c - a) ∧ g * (c - a) ≤ 400000000 := by
  have b1 : 0 ≤ g * (c - a) := Int.mul_nonneg h0 (by omega)
  have b2 : g * (c - a) ≤ 10000 * (c - a) := Int.mul_le_mul_of_nonneg_right h1 (by omega)
  omega
theorem row_if {w : World} {a : Option Addr} {cap : Nat} {b : Bas} (h : Sl w 2 RBrow (.slice a b.rows.length cap) b.rows) (k : Nat) (hk : k ≤ b.rows.length) : ∃ y o, 0 < (k : Int) → a = some ⟨y, o, none⟩ ∧ Cells w y (o + ((k : Int) - 1).toNat * 2) (browC (brow b (k - 1))) := by
  by_cases h0 : 0 < (k : Int)
  · obtain ⟨m, rfl⟩ : ∃ m, k = m + 1 := ⟨k - 1, by omega⟩
    obtain ⟨y, o, cs, ha, -, hc, hR, -⟩ := sl_at h (brow_get (b := b) (show m < b.rows.length by omega))
    obtain ⟨rfl, -⟩ := hR
    rw [show (((m + 1 : Nat) : Int) - 1).toNat = m by omega]
    exact ⟨y, o, fun _ => ⟨ha, hc⟩⟩
  · exact ⟨0, 0, fun k => absurd k h0⟩
end Bx

/- part LibB3 -/
namespace Bx
open Go Go.RowKit
section
variable {P : Program} {ops : Array Oper} {S : List Nat} {w0 : World} {L : List Item} {n : Nat} {rest : List Oper} {f : Fr} {d : Nat} {ty : TypeId} {pos : String} {af : Array Edge} {w : World} {Q : Exit → Act → World → Prop} {ρ : Operand → Value}
/-- The method that a dynamic type has by a name, with the value for its receiver. -/
def Mth (P : Program) (T : TypeId) (name : String) (g : FuncId) (v : Value) : Prop := ∀ w, (Go.method (P.types.size + Made.depth) T v name).run P w = .ok (g, v) w
theorem inv_run {x : Operand} {T : TypeId} {v : Value} {name : String} {g : FuncId} {xs : List Operand} {ts : Array TypeId} {vs : List Value} (hx : ρ x = .iface T v) (hm : Mth P T name g v) (ha : Evs ρ xs vs) (hc : ∀ ars w, (callFunc g ars).run P w = .ok (.enter g ars) w) :
    (xop ρ (.call ⟨.invoke x name, xs.toArray, ts⟩) ty).run P w = .ok (.enter g (v :: vs).toArray) w := by
  unfold Evs at ha
  have hm' : (Go.method (P.types.size + 100) T v name).run P w = .ok (g, v) w := hm w
  have hp : Sem.run P (Sem.program Sem.pure) w = .ok P w := rfl
  simp only [xop, execOp, resolve, hx, Sem.run_bind, Sem.run_pure, Result.andThen_ok, invoke, callMethod, List.map_toArray, ha]
  simp [Sem.run_bind, callMethod, program, go_sem, hm', hp, hc, Result.andThen]
theorem sinv {x : Operand} {T : TypeId} {v : Value} {name : String} {g : FuncId} {xs : List Operand} {ts : Array TypeId} {vs : List Value} {R : Value → World → Prop} (hx : ev n f x = .iface T v) (hm : Mth P T name g v) (ha : Evs (ev n f) xs vs) (hc : ∀ ars w, (callFunc g ars).run P w = .ok (.enter g ars) w)
    (hC : CE P g (v :: vs).toArray w R) (h : ∀ v w', R v w' → wpL P ops Q n rest (upd f d v) w') : wpL P ops Q n (⟨some d, .call ⟨.invoke x name, xs.toArray, ts⟩, ty, pos, af, none⟩ :: rest) f w :=
  scallV (inv_run hx hm ha hc) hC h
theorem qinv {K : Act → Prop} {x : Operand} {T : TypeId} {v u : Value} {name : String} {g : FuncId} {xs : List Operand} {ts : Array TypeId} {vs : List Value} (hx : ev n f x = .iface T v) (hm : Mth P T name g v) (ha : Evs (ev n f) xs vs) (hc : ∀ ars w, (callFunc g ars).run P w = .ok (.enter g ars) w)
    (hC : ∀ w, StX S w0 w L → CV P g (v :: vs).toArray w u) (h : wpQ P ops S w0 L K n rest (upd f d u)) : wpQ P ops S w0 L K n (⟨some d, .call ⟨.invoke x name, xs.toArray, ts⟩, ty, pos, af, none⟩ :: rest) f :=
  qcallV (fun _ => inv_run hx hm ha hc) hC h
theorem yFnM {x : Operand} {name : String} {v : Value} (hx : ρ x = v) : Y P ρ (.makeFunc (.method name) #[x] #[]) ty w (.func (.method name) #[v] #[]) w := by
  simp [Y, xop, execOp, Instr.makeFunc, hx]
theorem yNilM {x : Operand} {T : TypeId} {v : Value} {name : String} (hx : ρ x = .func (.method name) #[.iface T v] #[]) (hn : ∀ w, (nilAhead (P.types.size + Made.depth) T v name).run P w = .ok (some false) w) : Y P ρ (.nilCheck x) ty w (.func (.method name) #[.iface T v] #[]) w := by
  have hn' : (nilAhead (P.types.size + 100) T v name).run P w = .ok (some false) w := hn w
  simp [Y, xop, execOp, hx, go_sem, hn', Result.andThen]
end
end Bx

