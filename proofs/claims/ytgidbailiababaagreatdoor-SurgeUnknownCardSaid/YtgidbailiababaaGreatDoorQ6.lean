/- Merged texts, part 6. -/
import Derived.Test.YtgidbailiababaaGreatDoorQ5
import Derived.Test.YtgidbailiababaaGreatDoorProg
import Derived.Test.YtgidbailiababaaGreatDoorRows
import Derived.ChangeSame
import Derived.ChangeVars
import Derived.ChangeArms
import Derived.JoinedOf
import Derived.RowKit
import Derived.FnData
import Derived.LaidLaws
import Derived.LaidHandle
import Derived.Stop.Joined
set_option linter.all false
/- part S16 -/
namespace Bx
open Go Go.RowKit
section
variable {w : World} {frm : Int} {B : TypeId} {bs : List Bo} {ms ls hs : List Value}
theorem bx_at {n cap : Nat} {a : Option Addr} (hrow : w.ownsRow 0 B 9 (.slice a n cap) n (bxCs frm (bs.map Bo.mem) ms ls hs).flatten) {k : Nat} (hk : k < bs.length) (hn : bs.length = n) (h1 : ms.length = bs.length) (h2 : ls.length = bs.length) (h3 : hs.length = bs.length) (hb : ∀ b ∈ bs, b.mem.length ≤ 4 ∧ (∀ x ∈ b.mem, I64 x) ∧ (∀ x ∈ lowB b, I64 x) ∧ ∀ x ∈ highB b, I64 x)
    (i1 : ∀ it ∈ inI ms (bs.map Bo.mem), it.ok w) (i2 : ∀ it ∈ inI ls (bs.map lowB), it.ok w) (i3 : ∀ it ∈ inI hs (bs.map highB), it.ok w) :
    ∃ g am cm al cl ah ch, a = some ⟨g, 0, none⟩ ∧ Cells w g (0 + k * 9) (bxC frm (boxAt bs k).mem (.slice am (boxAt bs k).mem.length cm) (.slice al (lowB (boxAt bs k)).length cl) (.slice ah (highB (boxAt bs k)).length ch)) ∧ (ms.getD k undef = .slice am (boxAt bs k).mem.length cm ∧ ls.getD k undef = .slice al (lowB (boxAt bs k)).length cl ∧ hs.getD k undef = .slice ah (highB (boxAt bs k)).length ch) ∧
      Sl w 1 RInt (.slice am (boxAt bs k).mem.length cm) (boxAt bs k).mem ∧ Sl w 1 RInt (.slice al (lowB (boxAt bs k)).length cl) (lowB (boxAt bs k)) ∧ Sl w 1 RInt (.slice ah (highB (boxAt bs k)).length ch) (highB (boxAt bs k)) := by
  obtain ⟨g, rfl, hc⟩ := bx_cells hrow hk hn h1 h2 h3
  have hbk := hb _ (List.mem_of_getElem? (boxAt_get hk))
  have s1 := in_sl (f := Bo.mem) i1 h1 hk hbk.2.1
  have s2 := in_sl (f := lowB) i2 h2 hk hbk.2.2.1
  have s3 := in_sl (f := highB) i3 h3 hk hbk.2.2.2
  obtain ⟨am, cm, e1, -⟩ := id s1
  obtain ⟨al, cl, e2, -⟩ := id s2
  obtain ⟨ah, ch, e3, -⟩ := id s3
  rw [e1] at s1
  rw [e2] at s2
  rw [e3] at s3
  rw [e1, e2, e3, ← Nat.zero_add (k * 9)] at hc
  exact ⟨g, am, cm, al, cl, ah, ch, rfl, hc, ⟨e1, e2, e3⟩, s1, s2, s3⟩
theorem out_no {all : List Bo} {i : Nat} {b : Bo} (h : ((!(all.any fun x => (decide (x.mem ≠ b.mem) && belowB (highB b) (highB x)) && !belowB (highB x) (highB b))) && !((all.take i).any fun x => decide (highB x = highB b))) = true) : outBx all i b = false := by
  unfold outBx
  simp only [Bool.and_eq_true, Bool.not_eq_true'] at h
  rw [h.1, h.2]; rfl
theorem out_yes {all : List Bo} {i : Nat} {b : Bo} (h : ¬ ((!(all.any fun x => (decide (x.mem ≠ b.mem) && belowB (highB b) (highB x)) && !belowB (highB x) (highB b))) && !((all.take i).any fun x => decide (highB x = highB b))) = true) : outBx all i b = true := by
  cases hc : outBx all i b with
  | true => rfl
  | false =>
    exfalso; apply h
    unfold outBx at hc
    simp only [Bool.or_eq_false_iff] at hc
    rw [hc.1, hc.2]; rfl
theorem pos_el {E : TypeId} {i : Nat} (hi : i < (posK bs bs.length).length) (h3 : hs.length = bs.length) (hb : ∀ b ∈ bs, b.mem.length ≤ 4 ∧ (∀ x ∈ b.mem, I64 x) ∧ (∀ x ∈ lowB b, I64 x) ∧ ∀ x ∈ highB b, I64 x) : ∃ vi, ∀ (w2 : World) (u : Value), w2.ownsRow 0 E 2 u (posK bs bs.length).length (posC frm bs hs bs.length) → (∀ it ∈ inI hs (bs.map highB), it.ok w2) →
    (∃ g cap, u = .slice (some ⟨g, 0, none⟩) (posK bs bs.length).length cap ∧ Cells w2 g (0 + i * 2) [.int .i64 frm, vi]) ∧ Sl w2 1 RInt vi ((posK bs bs.length).getD i []) := by
  have hl : (posK bs bs.length).length = (keepK bs bs.length).length := by rw [posK_eq, List.length_map]
  have hk : (keepK bs bs.length)[i]? = some ((keepK bs bs.length).getD i 0) := by simp [List.getD, show i < (keepK bs bs.length).length by omega]
  have hj := keepK_lt (List.mem_of_getElem? hk)
  have he : (posK bs bs.length).getD i [] = highB (boxAt bs ((keepK bs bs.length).getD i 0)) := by
    rw [posK_eq, List.getD_eq_getElem?_getD, List.getElem?_map, hk]; rfl
  refine ⟨hs.getD ((keepK bs bs.length).getD i 0) undef, fun w2 u hrow h4 => ⟨?_, ?_⟩⟩
  · obtain ⟨g, cap, hu, -, -, hc⟩ := row_some hrow (by omega)
    refine ⟨g, cap, hu, fun q x hq => ?_⟩
    have hf : posC frm bs hs bs.length = ((keepK bs bs.length).map fun i => [Value.int .i64 frm, hs.getD i undef]).flatten := by unfold posC; rw [List.flatMap_def]
    have := hc _ _ (by rw [hf]; exact flatten_at (k := 2) (fun x hx => by obtain ⟨j, -, rfl⟩ := List.mem_map.1 hx; rfl) (by rw [List.getElem?_map, hk]; rfl) q x hq)
    rw [Nat.zero_add] at this
    rwa [Nat.zero_add]
  · rw [he]
    exact in_sl h4 h3 hj (hb _ (List.mem_of_getElem? (boxAt_get hj))).2.2.2
end
end Bx

/- part Sx3 -/
namespace Go.Proofs.YtgidbailiababaaGreatDoor
open Go Bx
set_option maxHeartbeats 4000000 in
/-- (*barrage/surge.known).possible -/
theorem c_possible {t : Sgt} {now : Int} {cv ov : Value} {ag ak ae aw ax : Option Addr} {cg ck ce cw cx bk mo : Nat} {os : List Span} {w0 w : World} {L9 : List Bx.Item} (h : RSgt w0 [.int .i64 t.table.mean, cv, .slice ag t.gauges.length cg, .int .i64 t.wrong, .int .i64 t.frm, .int .i64 t.ticks, .slice ak t.ctrs.length ck, .slice ae t.fcs.length ce, .int .i64 t.least, .int .i64 t.most, .int .i64 t.rate, .int .i64 t.quorum] t) (hok : SgOk t) (hnow : Bd now 0 200000) (hg : Glb w0) (hown : (os = [] ∧ mo = 0 ∧ ov = .slice none 0 0) ∨ (os = baseS t now ∧ mo = t.ticks.toNat)) (hS : StX [] w0 w (blk bk [.int .i64 t.table.mean, cv, .slice ag t.gauges.length cg, .int .i64 t.wrong, .int .i64 t.frm, .int .i64 t.ticks, .slice ak t.ctrs.length ck, .slice ae t.fcs.length ce, .int .i64 t.least, .int .i64 t.most, .int .i64 t.rate, .int .i64 t.quorum, .int .i64 now, .slice aw t.ticks.toNat cw, .slice ax t.ctrs.length cx, ov] 123 :: rowI (ov) 74 2 mo ((os).flatMap spanC) :: rowI (.slice aw t.ticks.toNat cw) 74 2 t.ticks.toNat ((tidesS t).flatMap spanC) :: rowI (.slice ax t.ctrs.length cx) 3 1 t.ctrs.length ((curS t now).flatMap Bx.encI) :: L9)) : CE Tryz.prog 67 #[.pointer (some ⟨bk, 0, none⟩)] w (fun u w' => ∃ ov' its, (∀ w2 : World, (∀ it ∈ its, it.ok w2) → Sl w2 2 RSer u ((posS t now).map (Ser.mk t.frm))) ∧ (∀ i, i < (posS t now).length → ∃ vi, ∀ w2 : World, (∀ it ∈ its, it.ok w2) → (∃ g cap, u = .slice (some ⟨g, 0, none⟩) (posS t now).length cap ∧ Cells w2 g (0 + i * 2) [.int .i64 t.frm, vi]) ∧ Sl w2 1 RInt vi ((posS t now).getD i [])) ∧ StX [] w0 w' (packI its :: blk bk [.int .i64 t.table.mean, cv, .slice ag t.gauges.length cg, .int .i64 t.wrong, .int .i64 t.frm, .int .i64 t.ticks, .slice ak t.ctrs.length ck, .slice ae t.fcs.length ce, .int .i64 t.least, .int .i64 t.most, .int .i64 t.rate, .int .i64 t.quorum, .int .i64 now, .slice aw t.ticks.toNat cw, .slice ax t.ctrs.length cx, ov'] 123 :: rowI (ov') 74 2 t.ticks.toNat ((baseS t now).flatMap spanC) :: rowI (.slice aw t.ticks.toNat cw) 74 2 t.ticks.toNat ((tidesS t).flatMap spanC) :: rowI (.slice ax t.ctrs.length cx) 3 1 t.ctrs.length ((curS t now).flatMap Bx.encI) :: L9)) := by
 obtain ⟨hT, hG, hw64, hf64, hk64, hC, hF, hl64, hm64, hr64, hq64⟩ := RSgt.parts h
 refine enter Tryz.func67 rfl Tryz.ntmps67 rfl ?_
 skip
 refine seq ?_
 refine region ?_
 refine sv (yAsg rfl) ?_
 refine nil ?_
 show Code.wp _ _ _ _ _
 refine seq ?_
 refine region ?_
 refine sv (yMove rfl) ?_
 refine scall Tryz.call64 (.cons rfl .nil) (c_boxes h hok hnow hg hown hS) ?_
 rintro bv w ⟨ov', ms, ls, hs, hl1, hl2, hl3, hM⟩; clear hS; have hS := hM; clear hM
 obtain ⟨av, cv2, rfl⟩ := row_shape (hS.row bv)
 have hbn : (boxS t now).length ≤ 625 := Nat.le_trans boxL_len (cho_bd hok)
 refine sv (yAsg rfl) ?_
 refine nil ?_
 show Code.wp _ _ _ _ _
 refine seq ?_
 refine seq ?_
 refine region ?_
 refine sv (yMove rfl) ?_
 refine sv (yLen rfl Tryz.underlying110) ?_
 refine sv (yMove rfl) ?_
 refine nil ?_
 show Code.wp _ _ _ _ _
 refine block ?_
 refine loop (fun f w zz => ∃ (k : Nat) (pv : Value), f 2 = pv ∧ f 3 = .slice av (boxS t now).length cv2 ∧ f 8 = .slice av (boxS t now).length cv2 ∧ f 9 = .int .i64 ((boxS t now).length : Int) ∧ f 10 = .int .i64 (k : Int) ∧ StX [] w0 w (rowI pv 41 2 (posK (boxS t now) k).length (posC t.frm (boxS t now) hs k) :: rowI (.slice av (boxS t now).length cv2) 115 9 (boxS t now).length (bxCs t.frm ((boxS t now).map Bo.mem) ms ls hs).flatten :: packI (inI ms ((boxS t now).map Bo.mem)) :: packI (inI ls ((boxS t now).map lowB)) :: packI (inI hs ((boxS t now).map highB)) :: blk bk [.int .i64 t.table.mean, cv, .slice ag t.gauges.length cg, .int .i64 t.wrong, .int .i64 t.frm, .int .i64 t.ticks, .slice ak t.ctrs.length ck, .slice ae t.fcs.length ce, .int .i64 t.least, .int .i64 t.most, .int .i64 t.rate, .int .i64 t.quorum, .int .i64 now, .slice aw t.ticks.toNat cw, .slice ax t.ctrs.length cx, ov'] 123 :: rowI (ov') 74 2 t.ticks.toNat ((baseS t now).flatMap spanC) :: rowI (.slice aw t.ticks.toNat cw) 74 2 t.ticks.toNat ((tidesS t).flatMap spanC) :: rowI (.slice ax t.ctrs.length cx) 3 1 t.ctrs.length ((curS t now).flatMap Bx.encI) :: L9) ∧ (k ≤ (boxS t now).length) ∧ zz = (boxS t now).length - k) _ ⟨_, rfl, 0, _, rfl, rfl, rfl, rfl, rfl, (hS.nilrow 41 2), (Nat.zero_le _), rfl⟩ ?_
 clear hS
 rintro f w _ ⟨k, pv, h2, h3, h8, h9, h10, hS, hk, rfl⟩
 refine seq ?_
 refine region ?_
 refine sv (yLss h10 h9) ?_
 refine nil ?_
 show Code.wp _ _ _ _ _
 refine seq ?_
 refine cond rfl (fun c11 => ?_) (fun c11 => ?_)
 ·
  simp only [BS, ne_eq] at c11
  have hkn : k < (boxS t now).length := by omega
  obtain ⟨gb, am, cm, al, cl, ah, ch, hgb, hcb, hes, -, -, hsh0⟩ := (bx_at (hS.row (.slice av (boxS t now).length cv2)) hkn rfl hl1 hl2 hl3 (fun b hb => box_ok hok hb) (hS.ok (packI (inI ms ((boxS t now).map Bo.mem))) (by simp)) (hS.ok (packI (inI ls ((boxS t now).map lowB))) (by simp)) (hS.ok (packI (inI hs ((boxS t now).map highB))) (by simp)))
  have hpl : (posK (boxS t now) k).length ≤ k := posK_le
  have hbk : (boxAt (boxS t now) k) ∈ boxS t now := List.mem_of_getElem? (boxAt_get hkn)
  have hB0 := (bx_sl (hS.row (.slice av (boxS t now).length cv2)) rfl hl1 hl2 hl3 (fun b hb => box_ok hok hb) (hS.ok (packI (inI ms ((boxS t now).map Bo.mem))) (by simp)) (hS.ok (packI (inI ls ((boxS t now).map lowB))) (by simp)) (hS.ok (packI (inI hs ((boxS t now).map highB))) (by simp)))
  obtain ⟨_, _, heq, hbc, hbm, -⟩ := id hB0
  cases heq
  refine skip ?_
  show Code.wp _ _ _ _ _
  refine seq ?_
  refine block ?_
  refine seq ?_
  refine region ?_
  refine sv (yMove h10) ?_
  refine sv (yIxa h8 hgb h10 Tryz.runUnderlying110 Tryz.sizeOf115 (by omega) (by omega)) ?_
  refine sv (yLdA rfl Tryz.isAgg115 Tryz.sizeOf115 hcb rfl) ?_
  refine salloc hS Tryz.zeroValue115 rfl ?_; clear hS; intro b5 w hS
  refine sv (yAsg rfl) ?_
  refine sst hS rfl rfl Tryz.sizeOf115 rfl rfl rfl rfl ?_; clear hS; intro w hS
  refine nil ?_
  show Code.wp _ _ _ _ _
  refine seq ?_
  refine region ?_
  have hB := (bx_sl (hS.row (.slice av (boxS t now).length cv2)) rfl hl1 hl2 hl3 (fun b hb => box_ok hok hb) (hS.ok (packI (inI ms ((boxS t now).map Bo.mem))) (by simp)) (hS.ok (packI (inI ls ((boxS t now).map lowB))) (by simp)) (hS.ok (packI (inI hs ((boxS t now).map highB))) (by simp)))
  have hsh := in_sl (f := highB) (bs := boxS t now) (k := k) (hS.ok (packI (inI hs ((boxS t now).map highB))) (by simp)) hl3 hkn (box_ok hok hbk).2.2.2
  rw [hes.2.2] at hsh
  refine sv (yMove h3) ?_
  refine sv (yFn (.cons rfl .nil)) ?_
  refine scall Tryz.call124 (.cons rfl (.cons rfl .nil)) (c_ContainsBox (p := fun x => (decide (x.mem ≠ (boxAt (boxS t now) k).mem) && belowB (highB (boxAt (boxS t now) k)) (highB x)) && !belowB (highB x) (highB (boxAt (boxS t now) k))) (g := 125) (cl := [.pointer (some ⟨b5, 0, none⟩)]) hB Tryz.call125 (fun x cs w2 hx he hR => by
   have hx := hx
   obtain ⟨m2, l2, h2, rfl, hx4, -, -, hhx⟩ := hR
   exact c_clo1 (he.get (hS.at b5)) ((box_len hx).2.trans (box_len hbk).2.symm) (box_ok hok hbk).1 hhx (hsh.ext RInt.stays he) ((high_len hx).1.trans (high_len hbk).1.symm))) ?_
  rintro _ w ⟨rfl, hE⟩; replace hS := hS.step hE; clear hE
  refine sv (yNot rfl) ?_
  have hB := (bx_sl (hS.row (.slice av (boxS t now).length cv2)) rfl hl1 hl2 hl3 (fun b hb => box_ok hok hb) (hS.ok (packI (inI ms ((boxS t now).map Bo.mem))) (by simp)) (hS.ok (packI (inI ls ((boxS t now).map lowB))) (by simp)) (hS.ok (packI (inI hs ((boxS t now).map highB))) (by simp)))
  have hsh := in_sl (f := highB) (bs := boxS t now) (k := k) (hS.ok (packI (inI hs ((boxS t now).map highB))) (by simp)) hl3 hkn (box_ok hok hbk).2.2.2
  rw [hes.2.2] at hsh
  refine sv (yMove rfl) ?_
  refine sg rfl rfl rfl (fun g => (yMove h3)) (fun v20 g20 => ?_)
  refine sg rfl rfl rfl (fun g => (yMove rfl)) (fun v21 g21 => ?_)
  refine sg rfl rfl rfl (fun g => (yTo (i := k) (g20.1 g) (g21.1 g) Tryz.underlying110 Tryz.sizeOf115 (by omega))) (fun v22 g22 => ?_)
  refine sg rfl rfl rfl (fun g => (yFn (.cons rfl .nil))) (fun v23 g23 => ?_)
  refine sgc hS rfl rfl rfl Tryz.call124 (fun g => (.cons (g22.1 g) (.cons (g23.1 g) .nil))) (fun g => (c_ContainsBox (p := fun x => decide (highB x = highB (boxAt (boxS t now) k))) (g := 127) (cl := [.pointer (some ⟨b5, 0, none⟩)]) (Sl.take hB (show k ≤ (boxS t now).length by omega)) Tryz.call127 (fun x cs w2 hx he hR => by
   have hx := List.mem_of_mem_take hx
   obtain ⟨m2, l2, h2, rfl, hx4, -, -, hhx⟩ := hR
   exact c_clo2 (he.get (hS.at b5)) ((box_len hx).2.trans (box_len hbk).2.symm) (box_ok hok hbk).1 hhx (hsh.ext RInt.stays he) ((high_len hx).1.trans (high_len hbk).1.symm)))) ?_; clear hS; intro v24 w hS g24
  refine sg rfl rfl rfl (fun g => (yNot (g24.1 g))) (fun v25 g25 => ?_)
  refine sv (yAnd rfl (fun hB => (g25.1 hB)) rfl) ?_
  refine nil ?_
  show Code.wp _ _ _ _ _
  refine cond rfl (fun c26 => ?_) (fun c26 => ?_)
  ·
   have hout := out_no c26
   refine region ?_
   refine sv (yMove h2) ?_
   refine sv (fa115_1 rfl) ?_
   refine sv (fa43_2 rfl) ?_
   refine sv (yLdBA rfl Tryz.isAgg41 Tryz.sizeOf41 (hS.at _) rfl rfl) ?_
   refine sbslice hS Tryz.underlying45 Tryz.sizeOf41 rfl Tryz.zeroValue41 rfl (.cons rfl rfl .nil) rfl ?_; clear hS; intro b31 w hS
   refine sapp (bytes := 32) (size := 2) (v := pv) (m := 1) hS rfl rfl Tryz.underlying45 ti41 rfl rfl rfl rfl (by decide) (blk_cells (hS.at _)) rfl rfl (by omega) (by omega) ?_; clear hS; intro v32 w hS
   refine sv (yAsg rfl) ?_
   refine nil ?_
   show Code.wp _ _ _ _ _
   refine region ?_
   refine sv (yAdd h10 rfl ⟨by omega, by omega⟩) ?_
   refine sv (yMove rfl) ?_
   refine nil ?_
   exact ⟨_, _, rfl, ⟨k + 1, _, rfl, h3, h8, h9, rfl, (by rw [posK_yes hout, posC_yes hout, hes.2.2]; exact hS.sub (.cons _ (.cons _ (List.Sublist.refl _)))), (by omega), rfl⟩, by omega⟩
  ·
   have hout := out_yes (by rw [c26]; decide)
   refine skip ?_
   show Code.wp _ _ _ _ _
   refine region ?_
   refine sv (yAdd h10 rfl ⟨by omega, by omega⟩) ?_
   refine sv (yMove rfl) ?_
   refine nil ?_
   exact ⟨_, _, rfl, ⟨k + 1, _, h2, h3, h8, h9, rfl, (by rw [posK_no hout, posC_no hout]; exact hS.sub (.cons _ (List.Sublist.refl _))), (by omega), rfl⟩, by omega⟩
 ·
  simp only [BS, ne_eq] at c11
  obtain rfl : k = (boxS t now).length := by omega
  refine exit ?_
  show Code.wp _ _ _ _ _
  refine seq ?_
  refine region ?_
  refine sv (yMove h2) ?_
  refine sv (yAsg rfl) ?_
  refine nil ?_
  show Code.wp _ _ _ _ _
  refine wp_ret ?_
  refine retQ (res1 rfl rfl) ?_
  exact ⟨ov', [rowI pv 41 2 (posK (boxS t now) (boxS t now).length).length (posC t.frm (boxS t now) hs (boxS t now).length), rowI (.slice av (boxS t now).length cv2) 115 9 (boxS t now).length (bxCs t.frm ((boxS t now).map Bo.mem) ms ls hs).flatten, packI (inI ms ((boxS t now).map Bo.mem)), packI (inI ls ((boxS t now).map lowB)), packI (inI hs ((boxS t now).map highB))], fun w2 hi => pos_sl (hi (rowI pv 41 2 (posK (boxS t now) (boxS t now).length).length (posC t.frm (boxS t now) hs (boxS t now).length)) (by simp)) rfl hf64 hl3 (fun b hb => box_ok hok hb) (hi (packI (inI hs ((boxS t now).map highB))) (by simp)), fun i hil => by
   obtain ⟨vi, hvi⟩ := pos_el (E := 41) (frm := t.frm) hil hl3 (fun b hb => box_ok hok hb)
   exact ⟨vi, fun w2 hi => hvi w2 _ (hi (rowI pv 41 2 (posK (boxS t now) (boxS t now).length).length (posC t.frm (boxS t now) hs (boxS t now).length)) (by simp)) (hi (packI (inI hs ((boxS t now).map highB))) (by simp))⟩, StX.pack (M := [rowI pv 41 2 (posK (boxS t now) (boxS t now).length).length (posC t.frm (boxS t now) hs (boxS t now).length), rowI (.slice av (boxS t now).length cv2) 115 9 (boxS t now).length (bxCs t.frm ((boxS t now).map Bo.mem) ms ls hs).flatten, packI (inI ms ((boxS t now).map Bo.mem)), packI (inI ls ((boxS t now).map lowB)), packI (inI hs ((boxS t now).map highB))]) hS⟩
end Go.Proofs.YtgidbailiababaaGreatDoor

/- part S17 -/
namespace Bx
open Go Go.RowKit
theorem its0 {w0 w : World} {L : List Item} (hS : StX [] w0 w L) : StX [] w0 w [packI []] := StX.pack (M := []) (hS.sub (List.nil_sublist _))
theorem its1 {w0 w : World} {x : Item} {L : List Item} (hS : StX [] w0 w (x :: L)) : StX [] w0 w [packI [x]] := StX.pack (M := [x]) (hS.sub (.cons_cons _ (List.nil_sublist _)))
theorem sl_none {α : Type} {w : World} {k : Nat} {R : World → List Value → α → Prop} : Sl w k R (.slice none 0 0) [] := ⟨none, 0, rfl, Nat.le_refl _, by decide, fun i hi => absurd hi (Nat.not_lt_zero _)⟩
/-- A box of the interface. -/
structure Bxs where
  mem : List Int
  low : Ser
  high : Ser
def RBxs (w : World) (cs : List Value) (b : Bxs) : Prop := ∃ m l h, cs = [m, .int .i64 b.low.frm, l, .int .i64 b.high.frm, h] ∧ I64 b.low.frm ∧ I64 b.high.frm ∧ Sl w 1 RInt m b.mem ∧ Sl w 1 RInt l b.low.vals ∧ Sl w 1 RInt h b.high.vals
theorem RBxs.stays : Stays RBxs := fun _ _ _ _ e ⟨m, l, h, h1, h2, h3, h4, h5, h6⟩ => ⟨m, l, h, h1, h2, h3, h4.ext RInt.stays e, h5.ext RInt.stays e, h6.ext RInt.stays e⟩
def toBxs (frm : Int) (b : Bo) : Bxs := ⟨b.mem, ⟨frm, lowB b⟩, ⟨frm, highB b⟩⟩
def boxC (frm : Int) (ms ls hs : List Value) (k : Nat) : List Value := (List.range k).flatMap fun i => [ms.getD i undef, .int .i64 frm, ls.getD i undef, .int .i64 frm, hs.getD i undef]
theorem boxC_succ {frm : Int} {ms ls hs : List Value} {k : Nat} : boxC frm ms ls hs (k + 1) = boxC frm ms ls hs k ++ [ms.getD k undef, .int .i64 frm, ls.getD k undef, .int .i64 frm, hs.getD k undef] := by unfold boxC; rw [List.range_succ, List.flatMap_append]; simp
section
variable {w : World} {frm : Int} {bs : List Bo} {ms ls hs : List Value}
theorem box_sl {E : TypeId} {u : Value} {n : Nat} (hrow : w.ownsRow 0 E 5 u n (boxC frm ms ls hs bs.length)) (hn : bs.length = n) (hfr : I64 frm) (h1 : ms.length = bs.length) (h2 : ls.length = bs.length) (h3 : hs.length = bs.length) (hb : ∀ b ∈ bs, b.mem.length ≤ 4 ∧ (∀ x ∈ b.mem, I64 x) ∧ (∀ x ∈ lowB b, I64 x) ∧ ∀ x ∈ highB b, I64 x)
    (i1 : ∀ it ∈ inI ms (bs.map Bo.mem), it.ok w) (i2 : ∀ it ∈ inI ls (bs.map lowB), it.ok w) (i3 : ∀ it ∈ inI hs (bs.map highB), it.ok w) : Sl w 5 RBxs u (bs.map (toBxs frm)) := by
  have key : ∀ is : List Nat, (∀ i ∈ is, i < bs.length) → Bx.Rows w 5 RBxs (is.map fun i => [ms.getD i undef, .int .i64 frm, ls.getD i undef, .int .i64 frm, hs.getD i undef]) ((is.map fun i => boxAt bs i).map (toBxs frm)) := by
    intro is
    induction is with
    | nil => intro _; trivial
    | cons i is ih =>
      intro h
      have hi := h i (List.mem_cons_self ..)
      have hbi := hb _ (List.mem_of_getElem? (boxAt_get hi))
      refine ⟨rfl, ⟨_, _, _, rfl, hfr, hfr, in_sl (f := Bo.mem) i1 h1 hi hbi.2.1, in_sl (f := lowB) i2 h2 hi hbi.2.2.1, in_sl (f := highB) i3 h3 hi hbi.2.2.2⟩, ih fun j hj => h j (List.mem_cons_of_mem _ hj)⟩
  have hflat : boxC frm ms ls hs bs.length = ((List.range bs.length).map fun i => [ms.getD i undef, .int .i64 frm, ls.getD i undef, .int .i64 frm, hs.getD i undef]).flatten := by unfold boxC; rw [List.flatMap_def]
  have e : (List.range bs.length).map (fun i => boxAt bs i) = bs := by
    apply List.ext_getElem?
    intro i
    rw [List.getElem?_map]
    by_cases hi : i < bs.length
    · rw [List.getElem?_range hi, Option.map_some, boxAt_get hi]
    · rw [List.getElem?_eq_none (by simpa using hi), List.getElem?_eq_none (by omega)]; rfl
  rw [hflat] at hrow
  have := key (List.range bs.length) fun i hi => List.mem_range.1 hi
  rw [e] at this
  exact sl_of_row hrow this (by rw [List.length_map]; exact hn)
end
end Bx

/- part Sx4 -/
namespace Go.Proofs.YtgidbailiababaaGreatDoor
open Go Bx
set_option maxHeartbeats 1000000 in
/-- barrage/surge.Current -/
theorem c_Current {t : Sgt} {cv : Value} {ag ak ae : Option Addr} {cg ck ce : Nat} {now : Int} {w0 : World} (h : RSgt w0 [.int .i64 t.table.mean, cv, .slice ag t.gauges.length cg, .int .i64 t.wrong, .int .i64 t.frm, .int .i64 t.ticks, .slice ak t.ctrs.length ck, .slice ae t.fcs.length ce, .int .i64 t.least, .int .i64 t.most, .int .i64 t.rate, .int .i64 t.quorum] t) (hg : Glb w0) (hI : I64 now) : CE Tryz.prog 27 #[.agg [.int .i64 t.table.mean, cv, .slice ag t.gauges.length cg, .int .i64 t.wrong, .int .i64 t.frm, .int .i64 t.ticks, .slice ak t.ctrs.length ck, .slice ae t.fcs.length ce, .int .i64 t.least, .int .i64 t.most, .int .i64 t.rate, .int .i64 t.quorum].toArray, .int .i64 now] w0 (fun u w' => ∃ v its, u = .tuple #[v, .int .i64 (curR t now).2] ∧ (∀ w2 : World, (∀ it ∈ its, it.ok w2) → Sl w2 1 RInt v ((curR t now).1)) ∧ St w0 w' [packI its]) := by
 obtain ⟨hT, hG, hw64, hf64, hk64, hC, hF, hl64, hm64, hr64, hq64⟩ := RSgt.parts h
 refine enter Tryz.func27 rfl Tryz.ntmps27 rfl ?_
 have hS := St.start w0
 refine seq ?_
 refine region ?_
 refine sbox hS rfl rfl ?_; clear hS; intro b2 w hS
 refine sv (yAsg rfl) ?_
 refine sv (yAsg rfl) ?_
 refine nil ?_
 show Code.wp _ _ _ _ _
 refine seq ?_
 refine region ?_
 refine sv (yLdBA rfl Tryz.isAgg29 Tryz.sizeOf29 (hS.at _) rfl rfl) ?_
 refine sv (yMove rfl) ?_
 refine scall Tryz.call63 (.cons rfl (.cons rfl .nil)) (c_with (h.ext hS.ext) hI) ?_
 rintro _ w (⟨he, rfl, hE⟩ | ⟨he, bk, aw, cw, ax, cx, rfl, hM⟩)
 ·
  replace hS := hS.step hE; clear hE
  refine sv (yMove rfl) ?_
  refine sv (yExt rfl rfl) ?_
  refine sv (yExt rfl rfl) ?_
  refine sv (yAsg rfl) ?_
  refine sv (yAsg rfl) ?_
  refine nil ?_
  show Code.wp _ _ _ _ _
  refine seq ?_
  refine seq ?_
  refine region ?_
  refine sv (yMove rfl) ?_
  refine sv (yNeq rfl rfl) ?_
  refine nil ?_
  show Code.wp _ _ _ _ _
  refine cond rfl (fun c15 => ?_) (fun c15 => ?_)
  ·
   simp only [BS, ne_eq] at c15
   refine seq ?_
   refine region ?_
   refine sv (yMove rfl) ?_
   refine sv (yAsg rfl) ?_
   refine sv (yAsg rfl) ?_
   refine nil ?_
   show Code.wp _ _ _ _ _
   refine wp_ret (thenR ?_)
   refine retQ (res2 rfl rfl rfl) ?_
   have hf : curR t now = ([], askE t now) := by unfold curR; rw [if_pos he]
   rw [hf]
   exact ⟨_, [], rfl, fun _ _ => sl_none, its0 hS⟩
  ·
   simp only [BS, ne_eq] at c15
   exact absurd c15 he
 ·
  replace hS := hS.call hM; clear hM
  replace hS : StX [] w0 w [blk bk [.int .i64 t.table.mean, cv, .slice ag t.gauges.length cg, .int .i64 t.wrong, .int .i64 t.frm, .int .i64 t.ticks, .slice ak t.ctrs.length ck, .slice ae t.fcs.length ce, .int .i64 t.least, .int .i64 t.most, .int .i64 t.rate, .int .i64 t.quorum, .int .i64 now, .slice aw t.ticks.toNat cw, .slice ax t.ctrs.length cx, .slice none 0 0] 123, rowI (.slice aw t.ticks.toNat cw) 74 2 t.ticks.toNat ((tidesS t).flatMap spanC), rowI (.slice ax t.ctrs.length cx) 3 1 t.ctrs.length ((curS t now).flatMap Bx.encI), blk b2 [.int .i64 t.table.mean, cv, .slice ag t.gauges.length cg, .int .i64 t.wrong, .int .i64 t.frm, .int .i64 t.ticks, .slice ak t.ctrs.length ck, .slice ae t.fcs.length ce, .int .i64 t.least, .int .i64 t.most, .int .i64 t.rate, .int .i64 t.quorum] 29] := hS
  obtain ⟨hok, hnow⟩ := askE_ok he
  have htk := hok.tk
  have hnc := hok.nc
  have hnf := hok.nf
  refine sv (yMove rfl) ?_
  refine sv (yExt rfl rfl) ?_
  refine sv (yExt rfl rfl) ?_
  refine sv (yAsg rfl) ?_
  refine sv (yAsg rfl) ?_
  refine nil ?_
  show Code.wp _ _ _ _ _
  refine seq ?_
  refine seq ?_
  refine region ?_
  refine sv (yMove rfl) ?_
  refine sv (yNeq rfl rfl) ?_
  refine nil ?_
  show Code.wp _ _ _ _ _
  refine cond rfl (fun c15 => ?_) (fun c15 => ?_)
  ·
   exact absurd c15 (by decide)
  ·
   refine skip ?_
   show Code.wp _ _ _ _ _
   refine seq ?_
   refine region ?_
   refine sv (yMove rfl) ?_
   refine sv (yNil rfl) ?_
   refine sv (fa123_3 rfl) ?_
   refine sv (yLdB rfl Tryz.isAgg39 (hS.at bk) rfl) ?_
   refine sv (yAsg rfl) ?_
   refine sv (yAsg rfl) ?_
   refine nil ?_
   show Code.wp _ _ _ _ _
   refine wp_ret ?_
   refine retQ (res2 rfl rfl rfl) ?_
   have hf : curR t now = (curS t now, 0) := by unfold curR; rw [if_neg (fun k => k he)]
   rw [hf]
   exact ⟨_, [rowI (.slice ax t.ctrs.length cx) 3 1 t.ctrs.length ((curS t now).flatMap Bx.encI)], rfl, fun w2 hi => sl_ints (hi (rowI (.slice ax t.ctrs.length cx) 3 1 t.ctrs.length ((curS t now).flatMap Bx.encI)) (by simp)) (curS_len ..) (cur_i64 hok), its1 (hS.sub (.cons _ (.cons _ (List.Sublist.refl _))))⟩
set_option maxHeartbeats 1000000 in
/-- barrage/surge.Possible -/
theorem c_Possible {t : Sgt} {cv : Value} {ag ak ae : Option Addr} {cg ck ce : Nat} {now : Int} {w0 : World} (h : RSgt w0 [.int .i64 t.table.mean, cv, .slice ag t.gauges.length cg, .int .i64 t.wrong, .int .i64 t.frm, .int .i64 t.ticks, .slice ak t.ctrs.length ck, .slice ae t.fcs.length ce, .int .i64 t.least, .int .i64 t.most, .int .i64 t.rate, .int .i64 t.quorum] t) (hg : Glb w0) (hI : I64 now) : CE Tryz.prog 24 #[.agg [.int .i64 t.table.mean, cv, .slice ag t.gauges.length cg, .int .i64 t.wrong, .int .i64 t.frm, .int .i64 t.ticks, .slice ak t.ctrs.length ck, .slice ae t.fcs.length ce, .int .i64 t.least, .int .i64 t.most, .int .i64 t.rate, .int .i64 t.quorum].toArray, .int .i64 now] w0 (fun u w' => ∃ v its, u = .tuple #[v, .int .i64 (posR t now).2] ∧ (∀ w2 : World, (∀ it ∈ its, it.ok w2) → Sl w2 2 RSer v (((posR t now).1).map (Ser.mk t.frm))) ∧ St w0 w' [packI its]) := by
 obtain ⟨hT, hG, hw64, hf64, hk64, hC, hF, hl64, hm64, hr64, hq64⟩ := RSgt.parts h
 refine enter Tryz.func24 rfl Tryz.ntmps24 rfl ?_
 have hS := St.start w0
 refine seq ?_
 refine region ?_
 refine sbox hS rfl rfl ?_; clear hS; intro b2 w hS
 refine sv (yAsg rfl) ?_
 refine sv (yAsg rfl) ?_
 refine nil ?_
 show Code.wp _ _ _ _ _
 refine seq ?_
 refine region ?_
 refine sv (yLdBA rfl Tryz.isAgg29 Tryz.sizeOf29 (hS.at _) rfl rfl) ?_
 refine sv (yMove rfl) ?_
 refine scall Tryz.call63 (.cons rfl (.cons rfl .nil)) (c_with (h.ext hS.ext) hI) ?_
 rintro _ w (⟨he, rfl, hE⟩ | ⟨he, bk, aw, cw, ax, cx, rfl, hM⟩)
 ·
  replace hS := hS.step hE; clear hE
  refine sv (yMove rfl) ?_
  refine sv (yExt rfl rfl) ?_
  refine sv (yExt rfl rfl) ?_
  refine sv (yAsg rfl) ?_
  refine sv (yAsg rfl) ?_
  refine nil ?_
  show Code.wp _ _ _ _ _
  refine seq ?_
  refine seq ?_
  refine region ?_
  refine sv (yMove rfl) ?_
  refine sv (yNeq rfl rfl) ?_
  refine nil ?_
  show Code.wp _ _ _ _ _
  refine cond rfl (fun c15 => ?_) (fun c15 => ?_)
  ·
   simp only [BS, ne_eq] at c15
   refine seq ?_
   refine region ?_
   refine sv (yMove rfl) ?_
   refine sv (yAsg rfl) ?_
   refine sv (yAsg rfl) ?_
   refine nil ?_
   show Code.wp _ _ _ _ _
   refine wp_ret (thenR ?_)
   refine retQ (res2 rfl rfl rfl) ?_
   have hf : posR t now = ([], askE t now) := by unfold posR; rw [if_pos he]
   rw [hf]
   exact ⟨_, [], rfl, fun _ _ => sl_none, its0 hS⟩
  ·
   simp only [BS, ne_eq] at c15
   exact absurd c15 he
 ·
  replace hS := hS.call hM; clear hM
  replace hS : StX [] w0 w [blk bk [.int .i64 t.table.mean, cv, .slice ag t.gauges.length cg, .int .i64 t.wrong, .int .i64 t.frm, .int .i64 t.ticks, .slice ak t.ctrs.length ck, .slice ae t.fcs.length ce, .int .i64 t.least, .int .i64 t.most, .int .i64 t.rate, .int .i64 t.quorum, .int .i64 now, .slice aw t.ticks.toNat cw, .slice ax t.ctrs.length cx, .slice none 0 0] 123, rowI (.slice aw t.ticks.toNat cw) 74 2 t.ticks.toNat ((tidesS t).flatMap spanC), rowI (.slice ax t.ctrs.length cx) 3 1 t.ctrs.length ((curS t now).flatMap Bx.encI), blk b2 [.int .i64 t.table.mean, cv, .slice ag t.gauges.length cg, .int .i64 t.wrong, .int .i64 t.frm, .int .i64 t.ticks, .slice ak t.ctrs.length ck, .slice ae t.fcs.length ce, .int .i64 t.least, .int .i64 t.most, .int .i64 t.rate, .int .i64 t.quorum] 29] := hS
  obtain ⟨hok, hnow⟩ := askE_ok he
  have htk := hok.tk
  have hnc := hok.nc
  have hnf := hok.nf
  refine sv (yMove rfl) ?_
  refine sv (yExt rfl rfl) ?_
  refine sv (yExt rfl rfl) ?_
  refine sv (yAsg rfl) ?_
  refine sv (yAsg rfl) ?_
  refine nil ?_
  show Code.wp _ _ _ _ _
  refine seq ?_
  refine seq ?_
  refine region ?_
  refine sv (yMove rfl) ?_
  refine sv (yNeq rfl rfl) ?_
  refine nil ?_
  show Code.wp _ _ _ _ _
  refine cond rfl (fun c15 => ?_) (fun c15 => ?_)
  ·
   exact absurd c15 (by decide)
  ·
   refine skip ?_
   show Code.wp _ _ _ _ _
   refine seq ?_
   refine region ?_
   refine sv (yMove rfl) ?_
   refine scall Tryz.call67 (.cons rfl .nil) (c_possible h hok hnow hg (.inl ⟨rfl, rfl, rfl⟩) ((hS.nilrow 74 2).perm (List.Perm.swap _ _ _))) ?_
   rintro bv w ⟨ov', its, hit, -, hM⟩; clear hS; have hS := hM; clear hM
   refine sv (yAsg rfl) ?_
   refine sv (yAsg rfl) ?_
   refine nil ?_
   show Code.wp _ _ _ _ _
   refine wp_ret ?_
   refine retQ (res2 rfl rfl rfl) ?_
   have hf : posR t now = (posS t now, 0) := by unfold posR; rw [if_neg (fun k => k he)]
   rw [hf]
   exact ⟨_, its, rfl, fun w2 hi => hit w2 hi, hS.sub (.cons_cons _ (List.nil_sublist _))⟩
end Go.Proofs.YtgidbailiababaaGreatDoor

/- part S18 -/
namespace Bx
open Go Go.RowKit
theorem has_no {s : List Span} {v : List Int} {k : Nat} (hk : k < s.length) (h : v.getD k 0 < (spn s k).lo ∨ (spn s k).hi < v.getD k 0) : hasS s v = false := by
  cases hc : hasS s v with
  | false => rfl
  | true =>
    have := List.all_eq_true.1 hc k (List.mem_range.2 hk)
    simp only [Bool.not_eq_true', Bool.or_eq_false_iff, decide_eq_false_iff_not] at this
    omega
theorem has_yes {s : List Span} {v : List Int} (h : ∀ i, i < s.length → ¬ (v.getD i 0 < (spn s i).lo ∨ (spn s i).hi < v.getD i 0)) : hasS s v = true := by
  refine List.all_eq_true.2 fun i hi => ?_
  have := h i (List.mem_range.1 hi)
  simp only [Bool.not_eq_true', Bool.or_eq_false_iff, decide_eq_false_iff_not]
  omega
theorem any_succ {p : Nat → Bool} {m : Nat} : (List.range (m + 1)).any p = ((List.range m).any p || p m) := by rw [List.range_succ, List.any_append]; simp
def encB (b : Bool) : List Value := [.bool b]
section
variable {P : Program} {ops : Array Oper} {Q : Exit → Act → World → Prop} {n : Nat} {f : Fr} {w w0 : World} {S : List Nat} {rest : List Oper} {d : Nat} {ty : TypeId} {pos : String} {af : Array Edge}
/-- A guarded operation that is not wanted. -/
theorem ungn {op : Op} {j dj : Nat} {want : Bool} {v : Value} (hd : dstOf ops j = some dj) (hn : Nat.blt dj n = true) (hb : f dj = v) (hv : v ≠ .bool want) (h : wpL P ops Q n rest (upd f d undef) w) : wpL P ops Q n (⟨some d, op, ty, pos, af, some (j, want)⟩ :: rest) f w :=
  wpL_guard (G := False) (v := undef) hd hn ⟨False.elim, fun e => hv (hb.symm.trans e)⟩ (fun g => g.elim) fun v' c => by rw [c.2 id]; exact h
end
section
variable {t : Sgt} {now : Int} {v : List Int}
theorem right_len : (rightS t now v).length = t.ctrs.length := by simp [rightS]
theorem right_get {k : Nat} (h : k < t.ctrs.length) : (rightS t now v)[k]? = some (rightAt t now v k) := by simp [rightS, h]
theorem right_no {k : Nat} (h : ¬ 0 ≤ curOf t now k) : rightAt t now v k = false := by unfold rightAt; rw [decide_eq_false h]; rfl
theorem right_yes {k : Nat} (h : 0 ≤ curOf t now k) : rightAt t now v k = (List.range (fct t.fcs (curOf t now k).toNat).members.length).any fun m => hasS (tubeS t (fct t.fcs (curOf t now k).toNat) (mem (fct t.fcs (curOf t now k).toNat) m)) v := by unfold rightAt; rw [decide_eq_true h]; rfl
theorem cnt_snoc {l : List Bool} {k : Nat} {b : Bool} (h : l[k]? = some b) : (l.take (k + 1)).countP (fun b => b) = (l.take k).countP (fun b => b) + if b = true then 1 else 0 := by rw [take_snoc h, List.countP_append, List.countP_singleton]
theorem cnt_le {l : List Bool} {k : Nat} : (l.take k).countP (fun b => b) ≤ k := by
  have := List.countP_le_length (p := fun b : Bool => b) (l := l.take k)
  rw [List.length_take] at this; omega
end
end Bx

/- part Sx5 -/
namespace Go.Proofs.YtgidbailiababaaGreatDoor
open Go Bx
set_option maxHeartbeats 1000000 in
/-- (barrage/surge.spans).has -/
theorem c_has {s : List Span} {v : List Int} {sv vv : Value} {w0 : World} (hs : Sl w0 2 RSpan sv s) (hv : Sl w0 1 RInt vv v) (hl : v.length = s.length) : CV Tryz.prog 131 #[sv, vv] w0 (.bool (hasS s v)) := by
 obtain ⟨a, ca, rfl, hacap, hamx, -⟩ := id hs
 obtain ⟨av, cv, rfl, -⟩ := id hv
 refine enter Tryz.func131 rfl Tryz.ntmps131 rfl ?_
 have hS := St.start w0
 refine seq ?_
 refine region ?_
 refine sv (yAsg rfl) ?_
 refine nil ?_
 show Code.wp _ _ _ _ _
 refine seq ?_
 refine seq ?_
 refine region ?_
 refine sv (yMove rfl) ?_
 refine sv (yLen rfl Tryz.underlying121) ?_
 refine sv (yMove rfl) ?_
 refine nil ?_
 show Code.wp _ _ _ _ _
 refine block ?_
 refine loop (fun f w zz => ∃ (k : Nat), f 1 = .slice av v.length cv ∧ f 7 = .slice a s.length ca ∧ f 8 = .int .i64 (s.length : Int) ∧ f 9 = .int .i64 (k : Int) ∧ StX [] w0 w [] ∧ (k ≤ s.length) ∧ (∀ i, i < k → ¬ (v.getD i 0 < (spn s i).lo ∨ (spn s i).hi < v.getD i 0)) ∧ zz = s.length - k) _ ⟨_, rfl, 0, rfl, rfl, rfl, rfl, hS, (Nat.zero_le _), (fun i hi => absurd hi (Nat.not_lt_zero _)), rfl⟩ ?_
 clear hS
 rintro f w _ ⟨k, h1, h7, h8, h9, hS, hk, hA, rfl⟩
 refine seq ?_
 refine region ?_
 refine sv (yLss h9 h8) ?_
 refine nil ?_
 show Code.wp _ _ _ _ _
 refine seq ?_
 refine cond rfl (fun c10 => ?_) (fun c10 => ?_)
 ·
  simp only [BS, ne_eq] at c10
  have hkl : k < s.length := by omega
  obtain ⟨bx, ox, cx, hax, hlx, hcx, hRx, -⟩ := sl_at hs (spn_get hkl)
  obtain ⟨rfl, -⟩ := hRx
  obtain ⟨by0, oy, cy, hay, hly, hcy, hRy, -⟩ := sl_at hv (show v[k]? = some (v.getD k 0) by simp [show k < v.length by omega])
  obtain ⟨rfl, -⟩ := hRy
  refine skip ?_
  show Code.wp _ _ _ _ _
  refine seq ?_
  refine block ?_
  refine seq ?_
  refine region ?_
  refine sv (yMove h9) ?_
  refine sv (yIxa h7 hax h9 Tryz.runUnderlying121 Tryz.sizeOf74 (by omega) (by omega)) ?_
  refine sv (yLdA rfl Tryz.isAgg74 Tryz.sizeOf74 (hcx.ext hS.ext) rfl) ?_
  refine salloc hS Tryz.zeroValue74 rfl ?_; clear hS; intro b6 w hS
  refine sv (yAsg rfl) ?_
  refine sst hS rfl rfl Tryz.sizeOf74 rfl rfl rfl rfl ?_; clear hS; intro w hS
  refine nil ?_
  show Code.wp _ _ _ _ _
  refine seq ?_
  refine region_draw mixed (by kernel_rfl) hS ?_
  refine qv (fun w hS => (yMove h1)) ?_
  refine qv (fun w hS => (yMove rfl)) ?_
  refine qv (fun w hS => (yIxa rfl hay rfl Tryz.runUnderlying39 Tryz.sizeOf3 (by omega) (by omega))) ?_
  refine qv (fun w hS => (yLd rfl Tryz.isAgg3 (hcy.ext hS.ext).one)) ?_
  refine qv (fun w hS => (fa74_0 rfl)) ?_
  refine qv (fun w hS => (yLdB rfl Tryz.isAgg3 (hS.at _) rfl)) ?_
  refine qv (fun w hS => (yLss rfl rfl)) ?_
  refine qv (fun w hS => (yMove rfl)) ?_
  refine qg rfl rfl rfl (fun g w hS => (yMove h1)) (fun v22 g22 => ?_)
  refine qg rfl rfl rfl (fun g w hS => (yMove rfl)) (fun v23 g23 => ?_)
  refine qg rfl rfl rfl (fun g w hS => (yIxa (g22.1 g) hay (g23.1 g) Tryz.runUnderlying39 Tryz.sizeOf3 (by omega) (by omega))) (fun v24 g24 => ?_)
  refine qg rfl rfl rfl (fun g w hS => (yLd (g24.1 g) Tryz.isAgg3 (hcy.ext hS.ext).one)) (fun v25 g25 => ?_)
  refine qg rfl rfl rfl (fun g w hS => (fa74_1 rfl)) (fun v26 g26 => ?_)
  refine qg rfl rfl rfl (fun g w hS => (yLdB (g26.1 g) Tryz.isAgg3 (hS.at _) rfl)) (fun v27 g27 => ?_)
  refine qg rfl rfl rfl (fun g w hS => (yGtr (g25.1 g) (g27.1 g))) (fun v28 g28 => ?_)
  refine qv (fun w hS => (yOr rfl rfl (fun hB => (g28.1 hB)))) ?_
  clear hS; refine qnil (fun w hS => ?_)
  show Code.wp _ _ _ _ _
  refine cond rfl (fun c29 => ?_) (fun c29 => ?_)
  ·
   simp only [BS, ne_eq] at c29
   refine seq ?_
   refine region ?_
   refine sv (yAsg rfl) ?_
   refine nil ?_
   show Code.wp _ _ _ _ _
   refine wp_ret (blockR (thenR (thenR (blockR (thenR ?_)))))
   exact retV (res1 rfl (congrArg Value.bool (show false = hasS s v from (has_no hkl c29).symm))) hS.ext
  ·
   simp only [BS, ne_eq] at c29
   refine skip ?_
   show Code.wp _ _ _ _ _
   refine region ?_
   refine sv (yAdd h9 rfl ⟨by omega, by omega⟩) ?_
   refine sv (yMove rfl) ?_
   refine nil ?_
   exact ⟨_, _, rfl, ⟨k + 1, h1, h7, h8, rfl, (hS.sub (List.nil_sublist _)), (by omega), (fun i hi => by by_cases e : i = k; subst e; omega; exact hA i (by omega)), rfl⟩, by omega⟩
 ·
  simp only [BS, ne_eq] at c10
  obtain rfl : k = s.length := by omega
  refine exit ?_
  show Code.wp _ _ _ _ _
  refine seq ?_
  refine region ?_
  refine sv (yAsg rfl) ?_
  refine nil ?_
  show Code.wp _ _ _ _ _
  refine wp_ret ?_
  exact retV (res1 rfl (congrArg Value.bool (show true = hasS s v from (has_yes hA).symm))) hS.ext
end Go.Proofs.YtgidbailiababaaGreatDoor

/- part Sx6 -/
namespace Go.Proofs.YtgidbailiababaaGreatDoor
open Go Bx
set_option maxHeartbeats 4000000 in
/-- (*barrage/surge.known).right -/
theorem c_right {t : Sgt} {now : Int} {ov : Value} {bk : Nat} {T : TypeId} {w0 : World} (hk : RKn w0 bk T t now ov) (hok : SgOk t) {v : List Int} {vv : Value} (hg : Glb w0) (hv : Sl w0 1 RInt vv v) (hvl : v.length = t.ticks.toNat) : CE Tryz.prog 76 #[.pointer (some ⟨bk, 0, none⟩), vv] w0 (fun u w' => ∃ rv, u = .tuple #[rv, .int .i64 (((rightS t now v).countP (fun b => b) : Nat) : Int)] ∧ St w0 w' [rowI rv 4 1 t.ctrs.length ((rightS t now v).flatMap encB)]) := by
 obtain ⟨cv, ag, cg, ak, ck, ae, ce, aw, cw, ax, cx, hkb, hT, hG, hC, hF, hW, hX⟩ := id hk
 have hnc := hok.nc
 have hcl := curS_len t now
 refine enter Tryz.func76 rfl Tryz.ntmps76 rfl ?_
 have hS := St.start w0
 refine seq ?_
 refine region ?_
 refine sv (yAsg rfl) ?_
 refine sv (yAsg rfl) ?_
 refine nil ?_
 show Code.wp _ _ _ _ _
 refine seq ?_
 refine seq ?_
 refine region ?_
 refine sv (yMove rfl) ?_
 refine sv (yNil rfl) ?_
 refine sv (fa123_3 rfl) ?_
 refine sv (yLdB rfl Tryz.isAgg39 (hS.ext.get hkb) rfl) ?_
 refine sv (yLen rfl Tryz.underlying39) ?_
 refine sv (yMove rfl) ?_
 refine nil ?_
 show Code.wp _ _ _ _ _
 refine block ?_
 refine loop (fun f w zz => ∃ (k : Nat) (rv : Value), f 0 = .pointer (some ⟨bk, 0, none⟩) ∧ f 1 = vv ∧ f 4 = rv ∧ f 5 = .int .i64 ((((rightS t now v).take k).countP (fun b => b) : Nat) : Int) ∧ f 13 = .slice ax t.ctrs.length cx ∧ f 14 = .int .i64 (t.ctrs.length : Int) ∧ f 15 = .int .i64 (k : Int) ∧ StX [] w0 w [rowI (rv) 4 1 k (((rightS t now v).take k).flatMap encB)] ∧ (k ≤ t.ctrs.length) ∧ zz = t.ctrs.length - k) _ ⟨_, rfl, 0, _, rfl, rfl, rfl, rfl, rfl, rfl, rfl, (hS.nilrow 4 1), (Nat.zero_le _), rfl⟩ ?_
 clear hS
 rintro f w _ ⟨k, rv, h0, h1, h4, h5, h13, h14, h15, hS, hk2, rfl⟩
 refine seq ?_
 refine region ?_
 refine sv (yLss h15 h14) ?_
 refine nil ?_
 show Code.wp _ _ _ _ _
 refine seq ?_
 refine cond rfl (fun c16 => ?_) (fun c16 => ?_)
 ·
  simp only [BS, ne_eq] at c16
  have hkl : k < t.ctrs.length := by omega
  obtain ⟨bq, oq, cq, haq, hlq, hcq, hRq, -⟩ := sl_at hX (curS_get t now hkl)
  obtain ⟨rfl, -⟩ := hRq
  have hcnt : ((rightS t now v).take k).countP (fun b => b) ≤ k := cnt_le
  refine skip ?_
  show Code.wp _ _ _ _ _
  refine seq ?_
  refine block ?_
  refine seq ?_
  refine region ?_
  refine sv (yIxa h13 haq h15 Tryz.runUnderlying39 Tryz.sizeOf3 (by omega) (by omega)) ?_
  refine sv (yLd rfl Tryz.isAgg3 (hcq.ext hS.ext).one) ?_
  refine sv (yAsg rfl) ?_
  refine nil ?_
  show Code.wp _ _ _ _ _
  refine seq ?_
  refine region ?_
  refine sv (yAsg rfl) ?_
  refine nil ?_
  show Code.wp _ _ _ _ _
  refine seqJ (n := 61) (fun f w => ∃ (rb : Bool), f 0 = .pointer (some ⟨bk, 0, none⟩) ∧ f 1 = vv ∧ f 4 = rv ∧ f 5 = .int .i64 ((((rightS t now v).take k).countP (fun b => b) : Nat) : Int) ∧ f 13 = .slice ax t.ctrs.length cx ∧ f 14 = .int .i64 (t.ctrs.length : Int) ∧ f 15 = .int .i64 (k : Int) ∧ f 8 = .bool rb ∧ StX [] w0 w [rowI (rv) 4 1 k (((rightS t now v).take k).flatMap encB)] ∧ (rightAt t now v k = rb) ∧ True) ?_ ?_
  ·
   refine seq ?_
   refine region ?_
   refine sv (yMove rfl) ?_
   refine sv (yGeq rfl rfl) ?_
   refine nil ?_
   show Code.wp _ _ _ _ _
   refine cond rfl (fun c20 => ?_) (fun c20 => ?_)
   ·
    simp only [BS, ne_eq] at c20
    obtain ⟨hcf0, hfo⟩ := cur_fct hok (show 0 ≤ curOf t now k by omega)
    obtain ⟨bf, of, csf, haf, -, hcf, hRf, -⟩ := sl_at hF (fct_get hcf0)
    obtain ⟨mv, rfl, hf1, hf2, hf3, hMm⟩ := id hRf
    obtain ⟨am, cm, rfl, hmcap, hmmx, -⟩ := id hMm
    have hnm := hfo.nm
    refine seq ?_
    refine region ?_
    refine sv (yMove h0) ?_
    refine sv (yNil rfl) ?_
    refine sv (fa123_0 rfl) ?_
    refine sv (fa29_6 rfl) ?_
    refine sv (yLdB rfl Tryz.isAgg27 (hS.ext.get hkb) rfl) ?_
    refine sv (yMove rfl) ?_
    refine sv (yIxa rfl haf (rfl.trans (congrArg (Value.int .i64) (show curOf t now k = (((curOf t now k).toNat : Nat) : Int) by omega))) Tryz.runUnderlying27 Tryz.sizeOf61 (by omega) (by omega)) ?_
    refine sv (fa61_3 rfl) ?_
    refine sv (yLd rfl Tryz.isAgg59 ((hcf.ext hS.ext).at (j := 3) rfl)) ?_
    refine sv (yLen rfl Tryz.underlying59) ?_
    refine sv (yMove rfl) ?_
    refine nil ?_
    show Code.wp _ _ _ _ _
    refine block ?_
    refine loop (fun f w zz => ∃ (m : Nat) (can : Bool), f 0 = .pointer (some ⟨bk, 0, none⟩) ∧ f 1 = vv ∧ f 4 = rv ∧ f 5 = .int .i64 ((((rightS t now v).take k).countP (fun b => b) : Nat) : Int) ∧ f 13 = .slice ax t.ctrs.length cx ∧ f 14 = .int .i64 (t.ctrs.length : Int) ∧ f 15 = .int .i64 (k : Int) ∧ f 7 = .int .i64 (curOf t now k) ∧ f 8 = .bool can ∧ f 29 = .slice am (fct t.fcs (curOf t now k).toNat).members.length cm ∧ f 30 = .int .i64 ((fct t.fcs (curOf t now k).toNat).members.length : Int) ∧ f 31 = .int .i64 (m : Int) ∧ StX [] w0 w [rowI (rv) 4 1 k (((rightS t now v).take k).flatMap encB)] ∧ (m ≤ (fct t.fcs (curOf t now k).toNat).members.length) ∧ (can = (List.range m).any fun q => hasS (tubeS t (fct t.fcs (curOf t now k).toNat) (mem (fct t.fcs (curOf t now k).toNat) q)) v) ∧ zz = (fct t.fcs (curOf t now k).toNat).members.length - m) _ ⟨_, rfl, 0, false, h0, h1, h4, h5, h13, h14, h15, rfl, rfl, rfl, rfl, rfl, hS, (Nat.zero_le _), (rfl), rfl⟩ ?_
    clear hS
    rintro f w _ ⟨m, can, h0, h1, h4, h5, h13, h14, h15, h7, h8, h29, h30, h31, hS, hm, hcan, rfl⟩
    refine seq ?_
    refine region ?_
    refine sv (yLss h31 h30) ?_
    refine nil ?_
    show Code.wp _ _ _ _ _
    refine seq ?_
    refine cond rfl (fun c32 => ?_) (fun c32 => ?_)
    ·
     simp only [BS, ne_eq] at c32
     have hml : m < (fct t.fcs (curOf t now k).toNat).members.length := by omega
     refine skip ?_
     show Code.wp _ _ _ _ _
     refine seq ?_
     refine block ?_
     refine seq ?_
     refine region ?_
     refine sv (yMove h31) ?_
     refine sv (yAsg rfl) ?_
     refine nil ?_
     show Code.wp _ _ _ _ _
     rcases Bool.eq_false_or_eq_true can with hcc | hcc
     ·
      refine region ?_
      refine sv (yMove h8) ?_
      refine sv (yMove rfl) ?_
      refine ungn (v := .bool can) rfl rfl rfl (by rw [hcc]; simp) ?_
      refine ungn (v := .bool can) rfl rfl rfl (by rw [hcc]; simp) ?_
      refine ungn (v := .bool can) rfl rfl rfl (by rw [hcc]; simp) ?_
      refine ungn (v := .bool can) rfl rfl rfl (by rw [hcc]; simp) ?_
      refine ungn (v := .bool can) rfl rfl rfl (by rw [hcc]; simp) ?_
      refine ungn (v := .bool can) rfl rfl rfl (by rw [hcc]; simp) ?_
      refine ungn (v := .bool can) rfl rfl rfl (by rw [hcc]; simp) ?_
      refine ungn (v := .bool can) rfl rfl rfl (by rw [hcc]; simp) ?_
      refine ungn (v := .bool can) rfl rfl rfl (by rw [hcc]; simp) ?_
      refine ungn (v := .bool can) rfl rfl rfl (by rw [hcc]; simp) ?_
      refine ungn (v := .bool can) rfl rfl rfl (by rw [hcc]; simp) ?_
      refine ungn (v := .bool can) rfl rfl rfl (by rw [hcc]; simp) ?_
      refine ungn (v := .bool can) rfl rfl rfl (by rw [hcc]; simp) ?_
      refine sv (yPick (v := .bool can) (B := can) rfl (fun _ => by rw [hcc]; rfl) (fun h => absurd (hcc.symm.trans h) (by decide))) ?_
      refine sv (yAsg rfl) ?_
      refine nil ?_
      show Code.wp _ _ _ _ _
      refine region ?_
      refine sv (yAdd h31 rfl ⟨by omega, by omega⟩) ?_
      refine sv (yMove rfl) ?_
      refine nil ?_
      exact ⟨_, _, rfl, ⟨m + 1, can, h0, h1, h4, h5, h13, h14, h15, h7, rfl, h29, h30, rfl, hS, (by omega), (by rw [any_succ, ← hcan, hcc]; rfl), rfl⟩, by omega⟩
     ·
      refine region ?_
      refine sv (yMove h8) ?_
      refine sv (yMove rfl) ?_
      refine ungo rfl rfl (congrArg Value.bool hcc) ?_
      refine sv (yMove h0) ?_
      refine ungo rfl rfl (congrArg Value.bool hcc) ?_
      refine sv (yMove h0) ?_
      refine ungo rfl rfl (congrArg Value.bool hcc) ?_
      refine sv (yNil rfl) ?_
      refine ungo rfl rfl (congrArg Value.bool hcc) ?_
      refine sv (fa123_0 rfl) ?_
      refine ungo rfl rfl (congrArg Value.bool hcc) ?_
      refine sv (fa29_6 rfl) ?_
      refine ungo rfl rfl (congrArg Value.bool hcc) ?_
      refine sv (yLdB rfl Tryz.isAgg27 (hS.ext.get hkb) rfl) ?_
      refine ungo rfl rfl (congrArg Value.bool hcc) ?_
      refine sv (yMove h7) ?_
      refine ungo rfl rfl (congrArg Value.bool hcc) ?_
      refine sv (yIxa rfl haf (rfl.trans (congrArg (Value.int .i64) (show curOf t now k = (((curOf t now k).toNat : Nat) : Int) by omega))) Tryz.runUnderlying27 Tryz.sizeOf61 (by omega) (by omega)) ?_
      refine ungo rfl rfl (congrArg Value.bool hcc) ?_
      refine sv (yLdA rfl Tryz.isAgg61 Tryz.sizeOf61 (hcf.ext hS.ext) rfl) ?_
      refine ungo rfl rfl (congrArg Value.bool hcc) ?_
      refine sv (yMove rfl) ?_
      refine ungo rfl rfl (congrArg Value.bool hcc) ?_
      refine scall Tryz.call83 (.cons rfl (.cons rfl (.cons rfl .nil))) (c_tubeS (hk.ext hS.ext) hok (hg.ext hS.ext) hfo hml (hMm.ext RRow.stays hS.ext)) ?_
      rintro tv w hM; replace hS := hS.call1 hM; clear hM
      have htl := tubeS_lbd hok hfo hml
      refine ungo rfl rfl (congrArg Value.bool hcc) ?_
      refine sv (yMove h1) ?_
      refine ungo rfl rfl (congrArg Value.bool hcc) ?_
      refine scall Tryz.call131 (.cons rfl (.cons rfl .nil)) (c_has (sl_spans (hS.row tv) (tubeS_len ..) (lbd_i64 htl)) (hv.ext RInt.stays hS.ext) (hvl.trans (tubeS_len ..).symm)) ?_
      rintro _ w ⟨rfl, hE⟩; replace hS := hS.step hE; clear hE
      refine sv (yPick (v := .bool (hasS (tubeS t (fct t.fcs (curOf t now k).toNat) (mem (fct t.fcs (curOf t now k).toNat) m)) v)) (B := can) rfl (fun h => absurd (hcc.symm.trans h) (by decide)) (fun _ => rfl)) ?_
      refine sv (yAsg rfl) ?_
      refine nil ?_
      show Code.wp _ _ _ _ _
      refine region ?_
      refine sv (yAdd h31 rfl ⟨by omega, by omega⟩) ?_
      refine sv (yMove rfl) ?_
      refine nil ?_
      exact ⟨_, _, rfl, ⟨m + 1, _, h0, h1, h4, h5, h13, h14, h15, h7, rfl, h29, h30, rfl, (hS.sub (.cons _ (List.Sublist.refl _))), (by omega), (by rw [any_succ, ← hcan, hcc]; rfl), rfl⟩, by omega⟩
    ·
     simp only [BS, ne_eq] at c32
     obtain rfl : m = (fct t.fcs (curOf t now k).toNat).members.length := by omega
     refine exit ?_
     exact ⟨_, rfl, _, h0, h1, h4, h5, h13, h14, h15, h8, hS, ((by rw [right_yes (by omega), ← hcan])), trivial⟩
   ·
    simp only [BS, ne_eq] at c20
    refine skip ?_
    exact ⟨_, rfl, false, h0, h1, h4, h5, h13, h14, h15, rfl, hS, ((right_no (by omega))), trivial⟩
  ·
   clear hS; rintro f w ⟨rb, h0, h1, h4, h5, h13, h14, h15, h8, hS, hrb, -⟩
   refine seq ?_
   refine seq ?_
   refine region ?_
   refine sv (yMove h8) ?_
   refine nil ?_
   show Code.wp _ _ _ _ _
   refine cond rfl (fun c51 => ?_) (fun c51 => ?_)
   ·
    have hrt : rb = true := c51
    refine region ?_
    refine sv (yMove h5) ?_
    refine sv (yAdd rfl rfl ⟨by omega, by omega⟩) ?_
    refine sv (yAsg rfl) ?_
    refine nil ?_
    show Code.wp _ _ _ _ _
    refine region ?_
    refine sv (yMove h4) ?_
    refine sv (yMove h8) ?_
    refine sbslice hS Tryz.underlying78 Tryz.sizeOf4 rfl Tryz.zeroValue4 rfl (.cons rfl rfl .nil) rfl ?_; clear hS; intro b56 w hS
    refine sapp (bytes := 1) (size := 1) (v := rv) (m := 1) hS rfl rfl Tryz.underlying78 ti4 rfl rfl rfl rfl (by decide) (blk_cells (hS.at _)) rfl rfl (by omega) (by omega) ?_; clear hS; intro v57 w hS
    refine sv (yAsg rfl) ?_
    refine nil ?_
    show Code.wp _ _ _ _ _
    refine region ?_
    refine sv (yAdd h15 rfl ⟨by omega, by omega⟩) ?_
    refine sv (yMove rfl) ?_
    refine nil ?_
    exact ⟨_, _, rfl, ⟨k + 1, _, h0, h1, rfl, (rfl.trans (congrArg (Value.int .i64) (by rw [cnt_snoc (right_get hkl), hrb, hrt]; simp))), h13, h14, rfl, (by rw [take_snoc (right_get hkl), List.flatMap_append, hrb]; exact hS.sub (.cons _ (List.Sublist.refl _))), (by omega), rfl⟩, by omega⟩
   ·
    have hrt : rb = false := c51
    refine skip ?_
    show Code.wp _ _ _ _ _
    refine region ?_
    refine sv (yMove h4) ?_
    refine sv (yMove h8) ?_
    refine sbslice hS Tryz.underlying78 Tryz.sizeOf4 rfl Tryz.zeroValue4 rfl (.cons rfl rfl .nil) rfl ?_; clear hS; intro b56 w hS
    refine sapp (bytes := 1) (size := 1) (v := rv) (m := 1) hS rfl rfl Tryz.underlying78 ti4 rfl rfl rfl rfl (by decide) (blk_cells (hS.at _)) rfl rfl (by omega) (by omega) ?_; clear hS; intro v57 w hS
    refine sv (yAsg rfl) ?_
    refine nil ?_
    show Code.wp _ _ _ _ _
    refine region ?_
    refine sv (yAdd h15 rfl ⟨by omega, by omega⟩) ?_
    refine sv (yMove rfl) ?_
    refine nil ?_
    exact ⟨_, _, rfl, ⟨k + 1, _, h0, h1, rfl, (h5.trans (congrArg (Value.int .i64) (by rw [cnt_snoc (right_get hkl), hrb, hrt]; simp))), h13, h14, rfl, (by rw [take_snoc (right_get hkl), List.flatMap_append, hrb]; exact hS.sub (.cons _ (List.Sublist.refl _))), (by omega), rfl⟩, by omega⟩
 ·
  simp only [BS, ne_eq] at c16
  obtain rfl : k = t.ctrs.length := by omega
  rw [show (rightS t now v).take t.ctrs.length = rightS t now v from List.take_of_length_le (by rw [right_len]; exact Nat.le_refl _)] at hS h5
  refine exit ?_
  show Code.wp _ _ _ _ _
  refine seq ?_
  refine region ?_
  refine sv (yMove h4) ?_
  refine sv (yMove h5) ?_
  refine sv (yAsg rfl) ?_
  refine sv (yAsg rfl) ?_
  refine nil ?_
  show Code.wp _ _ _ _ _
  refine wp_ret ?_
  refine retQ (res2 rfl rfl rfl) ?_
  exact ⟨_, rfl, hS⟩
end Go.Proofs.YtgidbailiababaaGreatDoor

/- part S19 -/
namespace Bx
open Go Go.RowKit
theorem getD_mem {v : List Int} {k : Nat} (h : k < v.length) : v.getD k 0 ∈ v := by
  have : v[k]? = some (v.getD k 0) := by simp [h]
  exact List.mem_of_getElem? this
theorem sl_cellx {w : World} {a : Option Addr} {b o n c : Nat} {l : List Int} {i : Nat} {x : Int} (h : Sl w 1 RInt (.slice a n c) l) (hx : l[i]? = some x) (ha : a = some ⟨b, o, none⟩) : w.cell? ⟨b, o + i * 1, none⟩ = some (.int .i64 x) := by
  subst ha
  exact sl_cell h hx
section
variable {t : Sgt} {now : Int} {v : List Int}
theorem rate_yes {r : Int} (h : ∀ i, i < v.length - 1 → outB (v.getD (i + 1) 0 - v.getD i 0) (-r) r = false) : rateB r v = true := by
  refine List.all_eq_true.2 fun i hi => ?_
  rw [h i (List.mem_range.1 hi)]; rfl
theorem is_rate {k : Nat} (hk : k + 1 < v.length) (h : outB (v.getD (k + 1) 0 - v.getD k 0) (-t.rate) t.rate = true) : isS t now v = false := by
  have hr : rateB t.rate v = false := by
    cases hc : rateB t.rate v with
    | false => rfl
    | true =>
      have := List.all_eq_true.1 hc k (List.mem_range.2 (by omega))
      rw [h] at this; cases this
  unfold isS
  rw [hr]; rfl
theorem is_has (h : hasS (baseS t now) v = false) : isS t now v = false := by
  unfold isS
  rw [h, Bool.and_false]; rfl
theorem is_all (h1 : rateB t.rate v = true) (h2 : hasS (baseS t now) v = true) : isS t now v = decide (needS t now ≤ ((rightS t now v).countP fun b => b : Nat)) := by
  unfold isS
  rw [h1, h2]; rfl
end
end Bx

/- part Sx7 -/
namespace Go.Proofs.YtgidbailiababaaGreatDoor
open Go Bx
set_option maxHeartbeats 4000000 in
/-- (*barrage/surge.known).is -/
theorem c_is {t : Sgt} {now : Int} {cv ov : Value} {ag ak ae aw ax : Option Addr} {cg ck ce cw cx bk mo : Nat} {os : List Span} {w0 w : World} {L9 : List Bx.Item} (h : RSgt w0 [.int .i64 t.table.mean, cv, .slice ag t.gauges.length cg, .int .i64 t.wrong, .int .i64 t.frm, .int .i64 t.ticks, .slice ak t.ctrs.length ck, .slice ae t.fcs.length ce, .int .i64 t.least, .int .i64 t.most, .int .i64 t.rate, .int .i64 t.quorum] t) (hok : SgOk t) (hnow : Bd now 0 200000) (hg : Glb w0) (hown : (os = [] ∧ mo = 0 ∧ ov = .slice none 0 0) ∨ (os = baseS t now ∧ mo = t.ticks.toNat)) (hS : StX [] w0 w (blk bk [.int .i64 t.table.mean, cv, .slice ag t.gauges.length cg, .int .i64 t.wrong, .int .i64 t.frm, .int .i64 t.ticks, .slice ak t.ctrs.length ck, .slice ae t.fcs.length ce, .int .i64 t.least, .int .i64 t.most, .int .i64 t.rate, .int .i64 t.quorum, .int .i64 now, .slice aw t.ticks.toNat cw, .slice ax t.ctrs.length cx, ov] 123 :: rowI (ov) 74 2 mo ((os).flatMap spanC) :: rowI (.slice aw t.ticks.toNat cw) 74 2 t.ticks.toNat ((tidesS t).flatMap spanC) :: rowI (.slice ax t.ctrs.length cx) 3 1 t.ctrs.length ((curS t now).flatMap Bx.encI) :: L9)) {v : List Int} {vv : Value} (hvr : ∀ w2 : World, (∀ it ∈ L9, it.ok w2) → Ext w0 w2 → Sl w2 1 RInt vv v) (hvl : v.length = t.ticks.toNat) (hvb : ∀ x ∈ v, Bd x (-200000) 200000) : CE Tryz.prog 70 #[.pointer (some ⟨bk, 0, none⟩), vv] w (fun u w' => u = .bool (isS t now v) ∧ ∃ (ov' : Value) (os' : List Span) (mo' : Nat), ((os' = [] ∧ mo' = 0 ∧ ov' = .slice none 0 0) ∨ (os' = baseS t now ∧ mo' = t.ticks.toNat)) ∧ StX [] w0 w' (blk bk [.int .i64 t.table.mean, cv, .slice ag t.gauges.length cg, .int .i64 t.wrong, .int .i64 t.frm, .int .i64 t.ticks, .slice ak t.ctrs.length ck, .slice ae t.fcs.length ce, .int .i64 t.least, .int .i64 t.most, .int .i64 t.rate, .int .i64 t.quorum, .int .i64 now, .slice aw t.ticks.toNat cw, .slice ax t.ctrs.length cx, ov'] 123 :: rowI (ov') 74 2 mo' ((os').flatMap spanC) :: rowI (.slice aw t.ticks.toNat cw) 74 2 t.ticks.toNat ((tidesS t).flatMap spanC) :: rowI (.slice ax t.ctrs.length cx) 3 1 t.ctrs.length ((curS t now).flatMap Bx.encI) :: L9)) := by
 obtain ⟨hT, hG, hw64, hf64, hk64, hC, hF, hl64, hm64, hr64, hq64⟩ := RSgt.parts h
 have htk := hok.tk
 have hn4 := hok.nums4
 obtain ⟨av, cvv, rfl, hvc, hvm, -⟩ := hvr _ (fun it hi => hS.ok it ((List.mem_cons_of_mem _ (List.mem_cons_of_mem _ (List.mem_cons_of_mem _ (List.mem_cons_of_mem _ hi)))))) hS.ext
 refine enter Tryz.func70 rfl Tryz.ntmps70 rfl ?_
 skip
 refine seq ?_
 refine region ?_
 refine sv (yAsg rfl) ?_
 refine nil ?_
 show Code.wp _ _ _ _ _
 refine seq ?_
 refine seq ?_
 refine region ?_
 refine sv (yAsg rfl) ?_
 refine nil ?_
 show Code.wp _ _ _ _ _
 refine block ?_
 refine loop (fun f w zz => ∃ (k : Nat), f 0 = .pointer (some ⟨bk, 0, none⟩) ∧ f 1 = .slice av v.length cvv ∧ f 5 = .int .i64 ((k + 1 : Nat) : Int) ∧ StX [] w0 w (blk bk [.int .i64 t.table.mean, cv, .slice ag t.gauges.length cg, .int .i64 t.wrong, .int .i64 t.frm, .int .i64 t.ticks, .slice ak t.ctrs.length ck, .slice ae t.fcs.length ce, .int .i64 t.least, .int .i64 t.most, .int .i64 t.rate, .int .i64 t.quorum, .int .i64 now, .slice aw t.ticks.toNat cw, .slice ax t.ctrs.length cx, ov] 123 :: rowI (ov) 74 2 mo ((os).flatMap spanC) :: rowI (.slice aw t.ticks.toNat cw) 74 2 t.ticks.toNat ((tidesS t).flatMap spanC) :: rowI (.slice ax t.ctrs.length cx) 3 1 t.ctrs.length ((curS t now).flatMap Bx.encI) :: L9) ∧ (k + 1 ≤ v.length) ∧ (∀ i, i < k → outB (v.getD (i + 1) 0 - v.getD i 0) (-t.rate) t.rate = false) ∧ zz = v.length - k) _ ⟨_, rfl, 0, rfl, rfl, rfl, hS, (by omega), (fun i hi => absurd hi (Nat.not_lt_zero _)), rfl⟩ ?_
 clear hS
 rintro f w _ ⟨k, h0, h1, h5, hS, hk, hA, rfl⟩
 refine seq ?_
 refine seq ?_
 refine region ?_
 refine sv (yMove h5) ?_
 refine sv (yMove h1) ?_
 refine sv (yLen rfl Tryz.underlying39) ?_
 refine sv (yLss rfl rfl) ?_
 refine nil ?_
 show Code.wp _ _ _ _ _
 refine cond rfl (fun c11 => ?_) (fun c11 => ?_)
 ·
  simp only [BS, ne_eq] at c11
  have hkl : k + 1 < v.length := by omega
  have hvw := hvr _ (fun it hi => hS.ok it ((List.mem_cons_of_mem _ (List.mem_cons_of_mem _ (List.mem_cons_of_mem _ (List.mem_cons_of_mem _ hi)))))) hS.ext
  obtain ⟨b1, o1, c1, ha1, -, hc1, hR1, -⟩ := sl_at hvw (show v[k + 1]? = some (v.getD (k + 1) 0) by simp [hkl])
  obtain ⟨rfl, -⟩ := hR1
  obtain ⟨b0, o0, c0, ha0, -, hc0, hR0, -⟩ := sl_at hvw (show v[k]? = some (v.getD k 0) by simp [show k < v.length by omega])
  obtain ⟨rfl, -⟩ := hR0
  have hb1 := hvb _ (getD_mem hkl)
  have hb0 := hvb _ (getD_mem (show k < v.length by omega))
  refine skip ?_
  show Code.wp _ _ _ _ _
  refine seq ?_
  refine block ?_
  refine seq ?_
  refine region_mix (fun w => StX [] w0 w (blk bk [.int .i64 t.table.mean, cv, .slice ag t.gauges.length cg, .int .i64 t.wrong, .int .i64 t.frm, .int .i64 t.ticks, .slice ak t.ctrs.length ck, .slice ae t.fcs.length ce, .int .i64 t.least, .int .i64 t.most, .int .i64 t.rate, .int .i64 t.quorum, .int .i64 now, .slice aw t.ticks.toNat cw, .slice ax t.ctrs.length cx, ov] 123 :: rowI (ov) 74 2 mo ((os).flatMap spanC) :: rowI (.slice aw t.ticks.toNat cw) 74 2 t.ticks.toNat ((tidesS t).flatMap spanC) :: rowI (.slice ax t.ctrs.length cx) 3 1 t.ctrs.length ((curS t now).flatMap Bx.encI) :: L9)) 22 mixed hS ?_
  clear hS; intro w hS
  refine f_step 0 (by kernel_rfl) rfl (fun c a a' w h => by obtain ⟨_, v, hv, _⟩ := h; cases hv) hS (fun w hS => (yMove h1)) ?_
  refine f_step 1 (by kernel_rfl) rfl (fun c a a' w h => by obtain ⟨_, v, hv, _⟩ := h; cases hv) hS (fun w hS => (yMove h5)) ?_
  refine f_step 2 (by kernel_rfl) rfl (fun c a a' w h => by obtain ⟨_, v, hv, _⟩ := h; cases hv) hS (fun w hS => (yIxa rfl ha1 (rfl.trans (congrArg (Value.int .i64) (show ((k + 1 : Nat) : Int) = _ from rfl))) Tryz.runUnderlying39 Tryz.sizeOf3 (by omega) (by omega))) ?_
  refine f_step 3 (by kernel_rfl) rfl (fun c a a' w h => by obtain ⟨_, v, hv, _⟩ := h; cases hv) hS (fun w hS => (yLd rfl Tryz.isAgg3 ((sl_cellx (hvr _ (fun it hi => hS.ok it ((List.mem_cons_of_mem _ (List.mem_cons_of_mem _ (List.mem_cons_of_mem _ (List.mem_cons_of_mem _ hi)))))) hS.ext) (show v[k + 1]? = some (v.getD (k + 1) 0) by simp [hkl]) ha1)))) ?_
  refine f_step 4 (by kernel_rfl) rfl (fun c a a' w h => by obtain ⟨_, v, hv, _⟩ := h; cases hv) hS (fun w hS => (yMove h1)) ?_
  refine f_step 5 (by kernel_rfl) rfl (fun c a a' w h => by obtain ⟨_, v, hv, _⟩ := h; cases hv) hS (fun w hS => (yMove h5)) ?_
  refine f_step 6 (by kernel_rfl) rfl (fun c a a' w h => by obtain ⟨_, v, hv, _⟩ := h; cases hv) hS (fun w hS => (Y.to (ySub rfl rfl ⟨by omega, by omega⟩) (congrArg (Value.int .i64) (show ((k + 1 : Nat) : Int) - 1 = (k : Int) by omega)))) ?_
  refine f_step 7 (by kernel_rfl) rfl (fun c a a' w h => by obtain ⟨_, v, hv, _⟩ := h; cases hv) hS (fun w hS => (yIxa rfl ha0 rfl Tryz.runUnderlying39 Tryz.sizeOf3 (by omega) (by omega))) ?_
  refine f_step 8 (by kernel_rfl) rfl (fun c a a' w h => by obtain ⟨_, v, hv, _⟩ := h; cases hv) hS (fun w hS => (yLd rfl Tryz.isAgg3 ((sl_cellx (hvr _ (fun it hi => hS.ok it ((List.mem_cons_of_mem _ (List.mem_cons_of_mem _ (List.mem_cons_of_mem _ (List.mem_cons_of_mem _ hi)))))) hS.ext) (show v[k]? = some (v.getD k 0) by simp [show k < v.length by omega]) ha0)))) ?_
  refine f_step 9 (by kernel_rfl) rfl (fun c a a' w h => by obtain ⟨_, v, hv, _⟩ := h; cases hv) hS (fun w hS => (ySub rfl rfl ⟨by omega, by omega⟩)) ?_
  refine f_step 10 (by kernel_rfl) rfl (fun c a a' w h => by obtain ⟨_, v, hv, _⟩ := h; cases hv) hS (fun w hS => (yMove h0)) ?_
  refine f_step 11 (by kernel_rfl) rfl (fun c a a' w h => by obtain ⟨_, v, hv, _⟩ := h; cases hv) hS (fun w hS => (yNil rfl)) ?_
  refine f_step 12 (by kernel_rfl) rfl (fun c a a' w h => by obtain ⟨_, v, hv, _⟩ := h; cases hv) hS (fun w hS => (fa123_0 rfl)) ?_
  refine f_step 13 (by kernel_rfl) rfl (fun c a a' w h => by obtain ⟨_, v, hv, _⟩ := h; cases hv) hS (fun w hS => (fa29_9 rfl)) ?_
  refine f_step 14 (by kernel_rfl) rfl (fun c a a' w h => by obtain ⟨_, v, hv, _⟩ := h; cases hv) hS (fun w hS => (yLdB rfl Tryz.isAgg3 (hS.at bk) rfl)) ?_
  refine f_step 15 (by kernel_rfl) rfl (fun c a a' w h => by obtain ⟨_, v, hv, _⟩ := h; cases hv) hS (fun w hS => (yNeg rfl ⟨by omega, by omega⟩)) ?_
  refine f_step 16 (by kernel_rfl) rfl (fun c a a' w h => by obtain ⟨_, v, hv, _⟩ := h; cases hv) hS (fun w hS => (yMove h0)) ?_
  refine f_step 17 (by kernel_rfl) rfl (fun c a a' w h => by obtain ⟨_, v, hv, _⟩ := h; cases hv) hS (fun w hS => (yNil rfl)) ?_
  refine f_step 18 (by kernel_rfl) rfl (fun c a a' w h => by obtain ⟨_, v, hv, _⟩ := h; cases hv) hS (fun w hS => (fa123_0 rfl)) ?_
  refine f_step 19 (by kernel_rfl) rfl (fun c a a' w h => by obtain ⟨_, v, hv, _⟩ := h; cases hv) hS (fun w hS => (fa29_9 rfl)) ?_
  refine f_step 20 (by kernel_rfl) rfl (fun c a a' w h => by obtain ⟨_, v, hv, _⟩ := h; cases hv) hS (fun w hS => (yLdB rfl Tryz.isAgg3 (hS.at bk) rfl)) ?_
  show wpA _ _ _ _ _ _ _ _ _ _
  refine a_step (i := 21) (is := []) (by kernel_rfl) ⟨?_, trivial⟩
  refine ⟨_, rfl, ?_⟩
  refine scall Tryz.call53 (.cons rfl (.cons rfl (.cons rfl .nil))) c_outS ?_
  rintro _ w ⟨rfl, hE⟩; replace hS := hS.step hE; clear hE
  refine nil ?_
  refine ⟨fun _ => hS, ?_⟩
  show wpA _ _ _ _ _ _ _ _ _ _
  refine a_end (by kernel_rfl) ?_
  show Code.wp _ _ _ _ _
  refine cond rfl (fun c35 => ?_) (fun c35 => ?_)
  ·
   refine seq ?_
   refine region ?_
   refine sv (yAsg rfl) ?_
   refine nil ?_
   show Code.wp _ _ _ _ _
   refine wp_ret (blockR (thenR (thenR (blockR (thenR ?_)))))
   refine retQ (res1 rfl rfl) ?_
   exact ⟨by rw [is_rate hkl c35]; rfl, ov, os, mo, hown, hS⟩
  ·
   refine skip ?_
   show Code.wp _ _ _ _ _
   refine region ?_
   refine sv (yMove h5) ?_
   refine sv (yAdd rfl rfl ⟨by omega, by omega⟩) ?_
   refine sv (yAsg rfl) ?_
   refine nil ?_
   exact ⟨_, _, rfl, ⟨k + 1, h0, h1, rfl, hS, (by omega), (fun i hi => by
    by_cases e : i = k
    ·
     subst e; exact c35
    ·
     exact hA i (by omega)), rfl⟩, by omega⟩
 ·
  simp only [BS, ne_eq] at c11
  have hke : v.length = k + 1 := by omega
  have hrate := rate_yes (show ∀ i, i < v.length - 1 → _ from fun i hi => hA i (by omega))
  refine exit ?_
  show Code.wp _ _ _ _ _
  refine seq ?_
  refine seq ?_
  refine region ?_
  refine sv (yMove h0) ?_
  refine scall Tryz.call81 (.cons rfl .nil) (c_baseS h hok hnow hg hown hS) ?_
  rintro bv w ⟨ov', hM⟩; clear hS; have hS := hM; clear hM
  refine sv (yMove h1) ?_
  refine scall Tryz.call131 (.cons rfl (.cons rfl .nil)) (c_has (sl_spans (hS.row bv) (baseS_len ..) (lbd_i64 (baseS_lbd hok now))) (hvr _ (fun it hi => hS.ok it ((List.mem_cons_of_mem _ (List.mem_cons_of_mem _ (List.mem_cons_of_mem _ (List.mem_cons_of_mem _ (List.mem_cons_of_mem _ hi))))))) hS.ext) (hvl.trans (baseS_len ..).symm)) ?_
  rintro _ w ⟨rfl, hE⟩; replace hS := hS.step hE; clear hE
  refine sv (yNot rfl) ?_
  refine nil ?_
  show Code.wp _ _ _ _ _
  refine cond rfl (fun c40 => ?_) (fun c40 => ?_)
  ·
   have hhas : hasS (baseS t now) v = false := by cases hh : hasS (baseS t now) v with | false => rfl | true => rw [hh] at c40; cases c40
   refine seq ?_
   refine region ?_
   refine sv (yAsg rfl) ?_
   refine nil ?_
   show Code.wp _ _ _ _ _
   refine wp_ret (thenR ?_)
   refine retQ (res1 rfl rfl) ?_
   exact ⟨by rw [is_has hhas]; rfl, ov', baseS t now, _, .inr ⟨rfl, rfl⟩, hS.sub (.cons _ (List.Sublist.refl _))⟩
  ·
   have hhas : hasS (baseS t now) v = true := by cases hh : hasS (baseS t now) v with | true => rfl | false => rw [hh] at c40; cases c40
   refine skip ?_
   show Code.wp _ _ _ _ _
   refine seq ?_
   refine region ?_
   refine sv (yMove h0) ?_
   refine sv (yMove h1) ?_
   refine scall Tryz.call76 (.cons rfl (.cons rfl .nil)) (c_right ⟨cv, ag, cg, ak, ck, ae, ce, aw, cw, ax, cx, hS.at bk, RTable.stays _ _ _ _ hS.ext hT, hG.ext RGauge.stays hS.ext, hC.ext RCtr.stays hS.ext, hF.ext RFct.stays hS.ext, sl_spans (hS.row (.slice aw t.ticks.toNat cw)) (tidesS_len ..) (lbd_i64 (tides_lbd hok)), sl_ints (hS.row (.slice ax t.ctrs.length cx)) (curS_len ..) (cur_i64 hok)⟩ hok (hg.ext hS.ext) (hvr _ (fun it hi => hS.ok it ((List.mem_cons_of_mem _ (List.mem_cons_of_mem _ (List.mem_cons_of_mem _ (List.mem_cons_of_mem _ (List.mem_cons_of_mem _ hi))))))) hS.ext) hvl) ?_
   rintro _ w ⟨rv, rfl, hM⟩; replace hS := hS.call1 hM; clear hM
   refine sv (yMove rfl) ?_
   refine sv (yExt rfl rfl) ?_
   refine sv (yExt rfl rfl) ?_
   refine sv (yAsg rfl) ?_
   refine sv (yAsg rfl) ?_
   refine nil ?_
   show Code.wp _ _ _ _ _
   refine seq ?_
   refine region ?_
   refine sv (yMove rfl) ?_
   refine sv (yMove h0) ?_
   refine scall Tryz.call119 (.cons rfl .nil) (c_needS ⟨cv, ag, cg, ak, ck, ae, ce, aw, cw, ax, cx, hS.at bk, RTable.stays _ _ _ _ hS.ext hT, hG.ext RGauge.stays hS.ext, hC.ext RCtr.stays hS.ext, hF.ext RFct.stays hS.ext, sl_spans (hS.row (.slice aw t.ticks.toNat cw)) (tidesS_len ..) (lbd_i64 (tides_lbd hok)), sl_ints (hS.row (.slice ax t.ctrs.length cx)) (curS_len ..) (cur_i64 hok)⟩ hok) ?_
   rintro _ w ⟨rfl, hE⟩; replace hS := hS.step hE; clear hE
   refine sv (yGeq rfl rfl) ?_
   refine sv (yAsg rfl) ?_
   refine nil ?_
   show Code.wp _ _ _ _ _
   refine wp_ret ?_
   refine retQ (res1 rfl rfl) ?_
   exact ⟨by rw [is_all hrate hhas]; rfl, ov', baseS t now, _, .inr ⟨rfl, rfl⟩, hS.sub (.cons _ (.cons _ (List.Sublist.refl _)))⟩
end Go.Proofs.YtgidbailiababaaGreatDoor

/- part S20 -/
namespace Bx
open Go Go.RowKit
theorem ruled_perm {w0 w : World} {E : TypeId} {a b c d p q r s x nr : Item} (h : StX [] w0 w (nr :: p :: a :: b :: c :: d :: q :: r :: s :: x :: [])) : StX [] w0 w (q :: nr :: r :: s :: p :: rowI (.slice none 0 0) E 1 0 [] :: x :: []) := by
  have h1 : StX [] w0 w [nr, p, q, r, s, x] := h.sub (.cons_cons _ (.cons_cons _ (.cons _ (.cons _ (.cons _ (.cons _ (List.Sublist.refl _)))))))
  have h2 : StX [] w0 w [rowI (.slice none 0 0) E 1 0 [], nr, p, q, r, s, x] := h1.nilrow E 1
  refine h2.perm ?_
  refine List.Perm.trans (l₂ := q :: ([rowI (.slice none 0 0) E 1 0 [], nr, p] ++ [r, s, x])) (List.perm_middle (l₁ := [_, _, _])) (List.Perm.cons _ ?_)
  refine List.Perm.trans (l₂ := nr :: ([rowI (.slice none 0 0) E 1 0 []] ++ [p, r, s, x])) (List.perm_middle (l₁ := [_])) (List.Perm.cons _ ?_)
  refine List.Perm.trans (l₂ := r :: ([rowI (.slice none 0 0) E 1 0 [], p] ++ [s, x])) (List.perm_middle (l₁ := [_, _])) (List.Perm.cons _ ?_)
  refine List.Perm.trans (l₂ := s :: ([rowI (.slice none 0 0) E 1 0 [], p] ++ [x])) (List.perm_middle (l₁ := [_, _])) (List.Perm.cons _ ?_)
  exact List.Perm.swap _ _ _
theorem ruled_in {w0 w : World} {b k r t x p q s : Item} (h : StX [] w0 w (b :: k :: r :: t :: x :: p :: q :: s :: [])) : StX [] w0 w (k :: r :: t :: x :: (b :: p :: q :: s :: [])) :=
  h.perm (List.perm_middle (l₁ := [k, r, t, x]) (l₂ := [p, q, s]) (a := b)).symm
theorem ruled_back1 {w0 w : World} {b k r t x p q s : Item} (h : StX [] w0 w (k :: r :: t :: x :: b :: p :: q :: s :: [])) : StX [] w0 w (k :: r :: t :: x :: p :: q :: s :: []) :=
  h.sub (.cons_cons _ (.cons_cons _ (.cons_cons _ (.cons_cons _ (.cons _ (List.Sublist.refl _))))))
theorem ruled_back2 {w0 w : World} {c b k r t x p q s : Item} (h : StX [] w0 w (c :: k :: r :: t :: x :: b :: p :: q :: s :: [])) : StX [] w0 w (k :: r :: t :: x :: p :: q :: s :: []) :=
  ruled_back1 (h.sub (.cons _ (List.Sublist.refl _)))
section
variable {t : Sgt} {now th : Int}
theorem rul_yes {k : Nat} (h : (!isS t now ((posS t th).getD k [])) = true) : rulL t now th (k + 1) = rulL t now th k ++ [(k : Int)] := by
  unfold rulL
  rw [List.range_succ, List.filter_append, List.map_append]
  simp only [List.filter_cons, List.filter_nil, h, if_true, List.map_cons, List.map_nil]
theorem rul_no {k : Nat} (h : isS t now ((posS t th).getD k []) = true) : rulL t now th (k + 1) = rulL t now th k := by
  unfold rulL
  rw [List.range_succ, List.filter_append, List.map_append]
  simp only [List.filter_cons, List.filter_nil, h, Bool.not_true, Bool.false_eq_true, if_false, List.map_nil, List.append_nil]
theorem rul_le {k : Nat} : (rulL t now th k).length ≤ k := by
  unfold rulL
  rw [List.length_map]
  have := List.length_filter_le (fun i => !isS t now ((posS t th).getD i [])) (List.range k)
  rwa [List.length_range] at this
theorem rul_i64 {k : Nat} (hk : k ≤ 1000 := by omega) : ∀ x ∈ rulL t now th k, I64 x := fun x hx => by
  obtain ⟨i, hi, rfl⟩ := List.mem_map.1 hx
  have := List.mem_range.1 (List.mem_filter.1 hi).1
  exact ⟨by omega, by omega⟩
theorem pos_get {k : Nat} (h : k < (posS t th).length) : (posS t th)[k]? = some ((posS t th).getD k []) := by simp [h]
theorem pos_ok (h : SgOk t) {v : List Int} (hv : v ∈ posS t th) : v.length = t.ticks.toNat ∧ ∀ x ∈ v, Bd x (-200000) 200000 := by
  obtain ⟨b, hb, rfl⟩ : ∃ b ∈ boxS t th, v = highB b := by
    unfold posS at hv
    rw [posK_eq] at hv
    obtain ⟨i, hi, rfl⟩ := List.mem_map.1 hv
    exact ⟨_, List.mem_of_getElem? (boxAt_get (keepK_lt hi)), rfl⟩
  refine ⟨(high_len hb).1, fun x hx => ?_⟩
  have h1 := (box_is h hb).2
  have h2 := ((isS_iff th (high_len hb).1).1 h1).2.1
  obtain ⟨i, hi, rfl⟩ := List.getElem_of_mem hx
  have h3 := h2.2 i (by rw [← h2.1]; exact hi)
  have h4 := base_sbd h th i
  have e : (highB b).getD i 0 = (highB b)[i] := by simp [hi]
  rw [e, spn_at (baseS_get (by rw [← (high_len hb).1]; exact hi))] at h3
  unfold SBd at h4
  exact ⟨by omega, by omega⟩
end
end Bx

/- part Sx9 -/
namespace Go.Proofs.YtgidbailiababaaGreatDoor
open Go Bx
set_option maxHeartbeats 4000000 in
/-- barrage/surge.Ruled -/
theorem c_Ruled {t : Sgt} {cv : Value} {ag ak ae : Option Addr} {cg ck ce : Nat} {now th : Int} {w0 : World} (h : RSgt w0 [.int .i64 t.table.mean, cv, .slice ag t.gauges.length cg, .int .i64 t.wrong, .int .i64 t.frm, .int .i64 t.ticks, .slice ak t.ctrs.length ck, .slice ae t.fcs.length ce, .int .i64 t.least, .int .i64 t.most, .int .i64 t.rate, .int .i64 t.quorum] t) (hg : Glb w0) (hI : I64 now) (hT0 : I64 th) : CE Tryz.prog 33 #[.agg [.int .i64 t.table.mean, cv, .slice ag t.gauges.length cg, .int .i64 t.wrong, .int .i64 t.frm, .int .i64 t.ticks, .slice ak t.ctrs.length ck, .slice ae t.fcs.length ce, .int .i64 t.least, .int .i64 t.most, .int .i64 t.rate, .int .i64 t.quorum].toArray, .int .i64 th, .int .i64 now] w0 (fun u w' => ∃ v its, u = .tuple #[v, .int .i64 (rulR t now th).2] ∧ (∀ w2 : World, (∀ it ∈ its, it.ok w2) → Sl w2 1 RInt v ((rulR t now th).1)) ∧ St w0 w' [packI its]) := by
 obtain ⟨hT, hG, hw64, hf64, hk64, hC, hF, hl64, hm64, hr64, hq64⟩ := RSgt.parts h
 refine enter Tryz.func33 rfl Tryz.ntmps33 rfl ?_
 have hS := St.start w0
 refine seq ?_
 refine region ?_
 refine sbox hS rfl rfl ?_; clear hS; intro b3 w hS
 refine sv (yAsg rfl) ?_
 refine sv (yAsg rfl) ?_
 refine nil ?_
 show Code.wp _ _ _ _ _
 refine seq ?_
 refine region ?_
 refine sv (yLdBA rfl Tryz.isAgg29 Tryz.sizeOf29 (hS.at _) rfl rfl) ?_
 refine sv (yMove rfl) ?_
 refine scall Tryz.call63 (.cons rfl (.cons rfl .nil)) (c_with (h.ext hS.ext) hT0) ?_
 rintro _ w (⟨he, rfl, hE⟩ | ⟨he, bk, aw, cw, ax, cx, rfl, hM⟩)
 ·
  replace hS := hS.step hE; clear hE
  refine sv (yMove rfl) ?_
  refine sv (yExt rfl rfl) ?_
  refine sv (yExt rfl rfl) ?_
  refine sv (yAsg rfl) ?_
  refine sv (yAsg rfl) ?_
  refine nil ?_
  show Code.wp _ _ _ _ _
  refine seq ?_
  refine seq ?_
  refine region ?_
  refine sv (yMove rfl) ?_
  refine sv (yNeq rfl rfl) ?_
  refine nil ?_
  show Code.wp _ _ _ _ _
  refine cond rfl (fun c19 => ?_) (fun c19 => ?_)
  ·
   simp only [BS, ne_eq] at c19
   refine seq ?_
   refine region ?_
   refine sv (yMove rfl) ?_
   refine sv (yAsg rfl) ?_
   refine sv (yAsg rfl) ?_
   refine nil ?_
   show Code.wp _ _ _ _ _
   refine wp_ret (thenR ?_)
   refine retQ (res2 rfl rfl rfl) ?_
   have hE : rulE t now th = askE t th := by unfold rulE; rw [if_pos he]
   have hf : rulR t now th = ([], askE t th) := by unfold rulR; rw [hE, if_pos he]
   rw [hf]
   exact ⟨_, [], rfl, fun _ _ => sl_none, its0 hS⟩
  ·
   simp only [BS, ne_eq] at c19
   exact absurd c19 he
 ·
  replace hS := hS.call hM; clear hM
  replace hS : StX [] w0 w [blk bk [.int .i64 t.table.mean, cv, .slice ag t.gauges.length cg, .int .i64 t.wrong, .int .i64 t.frm, .int .i64 t.ticks, .slice ak t.ctrs.length ck, .slice ae t.fcs.length ce, .int .i64 t.least, .int .i64 t.most, .int .i64 t.rate, .int .i64 t.quorum, .int .i64 th, .slice aw t.ticks.toNat cw, .slice ax t.ctrs.length cx, .slice none 0 0] 123, rowI (.slice aw t.ticks.toNat cw) 74 2 t.ticks.toNat ((tidesS t).flatMap spanC), rowI (.slice ax t.ctrs.length cx) 3 1 t.ctrs.length ((curS t th).flatMap Bx.encI), blk b3 [.int .i64 t.table.mean, cv, .slice ag t.gauges.length cg, .int .i64 t.wrong, .int .i64 t.frm, .int .i64 t.ticks, .slice ak t.ctrs.length ck, .slice ae t.fcs.length ce, .int .i64 t.least, .int .i64 t.most, .int .i64 t.rate, .int .i64 t.quorum] 29] := hS
  obtain ⟨hok, hth⟩ := askE_ok he
  refine sv (yMove rfl) ?_
  refine sv (yExt rfl rfl) ?_
  refine sv (yExt rfl rfl) ?_
  refine sv (yAsg rfl) ?_
  refine sv (yAsg rfl) ?_
  refine nil ?_
  show Code.wp _ _ _ _ _
  refine seq ?_
  refine seq ?_
  refine region ?_
  refine sv (yMove rfl) ?_
  refine sv (yNeq rfl rfl) ?_
  refine nil ?_
  show Code.wp _ _ _ _ _
  refine cond rfl (fun c19 => ?_) (fun c19 => ?_)
  ·
   exact absurd c19 (by decide)
  ·
   refine skip ?_
   show Code.wp _ _ _ _ _
   refine seq ?_
   refine region ?_
   refine sv (yLdBA rfl Tryz.isAgg29 Tryz.sizeOf29 (hS.at _) rfl rfl) ?_
   refine sv (yMove rfl) ?_
   refine scall Tryz.call63 (.cons rfl (.cons rfl .nil)) (c_with (h.ext hS.ext) hI) ?_
   rintro _ w (⟨he2, rfl, hE⟩ | ⟨he2, bk2, aw2, cw2, ax2, cx2, rfl, hM⟩)
   ·
    replace hS := hS.step hE; clear hE
    refine sv (yMove rfl) ?_
    refine sv (yExt rfl rfl) ?_
    refine sv (yExt rfl rfl) ?_
    refine sv (yAsg rfl) ?_
    refine sv (yAsg rfl) ?_
    refine nil ?_
    show Code.wp _ _ _ _ _
    refine seq ?_
    refine seq ?_
    refine region ?_
    refine sv (yMove rfl) ?_
    refine sv (yNeq rfl rfl) ?_
    refine nil ?_
    show Code.wp _ _ _ _ _
    refine cond rfl (fun c28 => ?_) (fun c28 => ?_)
    ·
     simp only [BS, ne_eq] at c28
     refine seq ?_
     refine region ?_
     refine sv (yMove rfl) ?_
     refine sv (yAsg rfl) ?_
     refine sv (yAsg rfl) ?_
     refine nil ?_
     show Code.wp _ _ _ _ _
     refine wp_ret (thenR ?_)
     refine retQ (res2 rfl rfl rfl) ?_
     have hE : rulE t now th = askE t now := by unfold rulE; rw [if_neg (fun k => k he), if_pos he2]
     have hf : rulR t now th = ([], askE t now) := by unfold rulR; rw [hE, if_pos he2]
     rw [hf]
     exact ⟨_, [], rfl, fun _ _ => sl_none, its0 hS⟩
    ·
     simp only [BS, ne_eq] at c28
     exact absurd c28 he2
   ·
    replace hS := hS.call hM; clear hM
    replace hS : StX [] w0 w [blk bk2 [.int .i64 t.table.mean, cv, .slice ag t.gauges.length cg, .int .i64 t.wrong, .int .i64 t.frm, .int .i64 t.ticks, .slice ak t.ctrs.length ck, .slice ae t.fcs.length ce, .int .i64 t.least, .int .i64 t.most, .int .i64 t.rate, .int .i64 t.quorum, .int .i64 now, .slice aw2 t.ticks.toNat cw2, .slice ax2 t.ctrs.length cx2, .slice none 0 0] 123, rowI (.slice aw2 t.ticks.toNat cw2) 74 2 t.ticks.toNat ((tidesS t).flatMap spanC), rowI (.slice ax2 t.ctrs.length cx2) 3 1 t.ctrs.length ((curS t now).flatMap Bx.encI), blk bk [.int .i64 t.table.mean, cv, .slice ag t.gauges.length cg, .int .i64 t.wrong, .int .i64 t.frm, .int .i64 t.ticks, .slice ak t.ctrs.length ck, .slice ae t.fcs.length ce, .int .i64 t.least, .int .i64 t.most, .int .i64 t.rate, .int .i64 t.quorum, .int .i64 th, .slice aw t.ticks.toNat cw, .slice ax t.ctrs.length cx, .slice none 0 0] 123, rowI (.slice aw t.ticks.toNat cw) 74 2 t.ticks.toNat ((tidesS t).flatMap spanC), rowI (.slice ax t.ctrs.length cx) 3 1 t.ctrs.length ((curS t th).flatMap Bx.encI), blk b3 [.int .i64 t.table.mean, cv, .slice ag t.gauges.length cg, .int .i64 t.wrong, .int .i64 t.frm, .int .i64 t.ticks, .slice ak t.ctrs.length ck, .slice ae t.fcs.length ce, .int .i64 t.least, .int .i64 t.most, .int .i64 t.rate, .int .i64 t.quorum] 29] := hS
    obtain ⟨-, hnow⟩ := askE_ok he2
    refine sv (yMove rfl) ?_
    refine sv (yExt rfl rfl) ?_
    refine sv (yExt rfl rfl) ?_
    refine sv (yAsg rfl) ?_
    refine sv (yAsg rfl) ?_
    refine nil ?_
    show Code.wp _ _ _ _ _
    refine seq ?_
    refine seq ?_
    refine region ?_
    refine sv (yMove rfl) ?_
    refine sv (yNeq rfl rfl) ?_
    refine nil ?_
    show Code.wp _ _ _ _ _
    refine cond rfl (fun c28 => ?_) (fun c28 => ?_)
    ·
     exact absurd c28 (by decide)
    ·
     refine skip ?_
     show Code.wp _ _ _ _ _
     refine seq ?_
     refine seq ?_
     refine region ?_
     refine sv (yMove rfl) ?_
     replace hS : StX [] w0 w (blk bk [.int .i64 t.table.mean, cv, .slice ag t.gauges.length cg, .int .i64 t.wrong, .int .i64 t.frm, .int .i64 t.ticks, .slice ak t.ctrs.length ck, .slice ae t.fcs.length ce, .int .i64 t.least, .int .i64 t.most, .int .i64 t.rate, .int .i64 t.quorum, .int .i64 th, .slice aw t.ticks.toNat cw, .slice ax t.ctrs.length cx, .slice none 0 0] 123 :: rowI (.slice aw t.ticks.toNat cw) 74 2 t.ticks.toNat ((tidesS t).flatMap spanC) :: rowI (.slice ax t.ctrs.length cx) 3 1 t.ctrs.length ((curS t th).flatMap Bx.encI) :: blk bk2 [.int .i64 t.table.mean, cv, .slice ag t.gauges.length cg, .int .i64 t.wrong, .int .i64 t.frm, .int .i64 t.ticks, .slice ak t.ctrs.length ck, .slice ae t.fcs.length ce, .int .i64 t.least, .int .i64 t.most, .int .i64 t.rate, .int .i64 t.quorum, .int .i64 now, .slice aw2 t.ticks.toNat cw2, .slice ax2 t.ctrs.length cx2, .slice none 0 0] 123 :: rowI (.slice aw2 t.ticks.toNat cw2) 74 2 t.ticks.toNat ((tidesS t).flatMap spanC) :: rowI (.slice ax2 t.ctrs.length cx2) 3 1 t.ctrs.length ((curS t now).flatMap Bx.encI) :: blk b3 [.int .i64 t.table.mean, cv, .slice ag t.gauges.length cg, .int .i64 t.wrong, .int .i64 t.frm, .int .i64 t.ticks, .slice ak t.ctrs.length ck, .slice ae t.fcs.length ce, .int .i64 t.least, .int .i64 t.most, .int .i64 t.rate, .int .i64 t.quorum] 29 :: []) := hS.perm (List.perm_append_comm_assoc [_, _, _] [_, _, _] [_])
     refine scall Tryz.call67 (.cons rfl .nil) (c_possible h hok hth hg (.inl ⟨rfl, rfl, rfl⟩) ((hS.nilrow 74 2).perm (List.Perm.swap _ _ _))) ?_
     rintro uv w ⟨ov1, its, hit, hel, hM⟩; clear hS; have hS := hM; clear hM
     have hbn : (posS t th).length ≤ 625 := Nat.le_trans posK_le (Nat.le_trans boxL_len (cho_bd hok))
     obtain ⟨au, cu, rfl⟩ : ∃ au cu, uv = .slice au (posS t th).length cu := by
      obtain ⟨au, cu, e, -⟩ := hit w (fun it hi => hS.ok (packI its) (by simp) it hi)
      exact ⟨au, cu, by rw [e, List.length_map]⟩
     replace hS := ruled_perm (E := 3) (hS.nilrow 74 2)
     refine sv (yLen rfl Tryz.underlying45) ?_
     refine sv (yMove rfl) ?_
     refine nil ?_
     show Code.wp _ _ _ _ _
     refine block ?_
     refine loop (fun f w zz => ∃ (k : Nat) (pv ov : Value) (os : List Span) (mo : Nat), f 6 = pv ∧ f 9 = .pointer (some ⟨bk2, 0, none⟩) ∧ f 31 = .slice au (posS t th).length cu ∧ f 32 = .int .i64 ((posS t th).length : Int) ∧ f 33 = .int .i64 (k : Int) ∧ StX [] w0 w (blk bk2 [.int .i64 t.table.mean, cv, .slice ag t.gauges.length cg, .int .i64 t.wrong, .int .i64 t.frm, .int .i64 t.ticks, .slice ak t.ctrs.length ck, .slice ae t.fcs.length ce, .int .i64 t.least, .int .i64 t.most, .int .i64 t.rate, .int .i64 t.quorum, .int .i64 now, .slice aw2 t.ticks.toNat cw2, .slice ax2 t.ctrs.length cx2, ov] 123 :: rowI (ov) 74 2 mo ((os).flatMap spanC) :: rowI (.slice aw2 t.ticks.toNat cw2) 74 2 t.ticks.toNat ((tidesS t).flatMap spanC) :: rowI (.slice ax2 t.ctrs.length cx2) 3 1 t.ctrs.length ((curS t now).flatMap Bx.encI) :: packI its :: rowI (pv) 3 1 (rulL t now th k).length ((rulL t now th k).flatMap Bx.encI) :: blk b3 [.int .i64 t.table.mean, cv, .slice ag t.gauges.length cg, .int .i64 t.wrong, .int .i64 t.frm, .int .i64 t.ticks, .slice ak t.ctrs.length ck, .slice ae t.fcs.length ce, .int .i64 t.least, .int .i64 t.most, .int .i64 t.rate, .int .i64 t.quorum] 29 :: []) ∧ (k ≤ (posS t th).length) ∧ ((os = [] ∧ mo = 0 ∧ ov = .slice none 0 0) ∨ (os = baseS t now ∧ mo = t.ticks.toNat)) ∧ zz = (posS t th).length - k) _ ⟨_, rfl, 0, _, _, [], 0, rfl, rfl, rfl, rfl, rfl, hS, (Nat.zero_le _), (.inl ⟨rfl, rfl, rfl⟩), rfl⟩ ?_
     clear hS
     rintro f w _ ⟨k, pv, ov, os, mo, h6, h9, h31, h32, h33, hS, hk, hown, rfl⟩
     refine seq ?_
     refine region ?_
     refine sv (yLss h33 h32) ?_
     refine nil ?_
     show Code.wp _ _ _ _ _
     refine seq ?_
     refine cond rfl (fun c34 => ?_) (fun c34 => ?_)
     ·
      simp only [BS, ne_eq] at c34
      have hkn : k < (posS t th).length := by omega
      obtain ⟨vi, hvi⟩ := hel k hkn
      obtain ⟨⟨gu, cpu, heu, hcu⟩, hvs⟩ := hvi w (fun it hi => hS.ok (packI its) (by simp) it hi)
      obtain ⟨avk, cvk, rfl, -⟩ := id hvs
      have hau : au = some ⟨gu, 0, none⟩ := by cases heu; rfl
      have hrl : (rulL t now th k).length ≤ k := rul_le
      have hpl := pos_ok hok (List.mem_of_getElem? (pos_get hkn))
      refine skip ?_
      show Code.wp _ _ _ _ _
      refine seq ?_
      refine block ?_
      refine seq ?_
      refine region ?_
      refine sv (yMove h33) ?_
      refine sv (yIxa h31 hau h33 Tryz.runUnderlying45 Tryz.sizeOf41 (by omega) (by omega)) ?_
      refine sv (yLdA rfl Tryz.isAgg41 Tryz.sizeOf41 hcu rfl) ?_
      refine salloc hS Tryz.zeroValue41 rfl ?_; clear hS; intro b11 w hS
      refine sv (yAsg rfl) ?_
      refine sst hS rfl rfl Tryz.sizeOf41 rfl rfl rfl rfl ?_; clear hS; intro w hS
      refine nil ?_
      show Code.wp _ _ _ _ _
      refine seq ?_
      refine region ?_
      replace hS := ruled_in hS
      refine sv (yMove h9) ?_
      refine sv (fa41_1 rfl) ?_
      refine sv (yLdB rfl Tryz.isAgg39 (hS.at _) rfl) ?_
      refine scall Tryz.call70 (.cons rfl (.cons rfl .nil)) (c_is (v := ((posS t th).getD k [])) h hok hnow hg hown hS (fun w2 hi2 _ => (hvi w2 (fun it hi => hi2 (packI its) (by simp) it hi)).2) hpl.1 hpl.2) ?_
      rintro _ w ⟨rfl, ov', os', mo', hown', hM⟩; clear hS; have hS := hM; clear hM
      refine sv (yNot rfl) ?_
      refine nil ?_
      show Code.wp _ _ _ _ _
      refine cond rfl (fun c42 => ?_) (fun c42 => ?_)
      ·
       have hisv : isS t now ((posS t th).getD k []) = false := by cases hh : isS t now ((posS t th).getD k []) with | false => rfl | true => rw [hh] at c42; cases c42
       refine region ?_
       refine sv (yMove h6) ?_
       refine sv (yMove rfl) ?_
       refine sbslice hS Tryz.underlying39 Tryz.sizeOf3 rfl Tryz.zeroValue3 rfl (.cons rfl rfl .nil) rfl ?_; clear hS; intro b45 w hS
       refine sapp (bytes := 8) (size := 1) (v := pv) (m := 1) hS rfl rfl Tryz.underlying39 ti3 rfl rfl rfl rfl (by decide) (blk_cells (hS.at _)) rfl rfl (by omega) (by omega) ?_; clear hS; intro v46 w hS
       refine sv (yAsg rfl) ?_
       refine nil ?_
       show Code.wp _ _ _ _ _
       refine region ?_
       refine sv (yAdd h33 rfl ⟨by omega, by omega⟩) ?_
       refine sv (yMove rfl) ?_
       refine nil ?_
       exact ⟨_, _, rfl, ⟨k + 1, _, ov', os', mo', rfl, h9, h31, h32, rfl, (by rw [rul_yes (by rw [hisv]; rfl), List.flatMap_append, List.length_append]; exact ruled_back2 hS), (by omega), (hown'), rfl⟩, by omega⟩
      ·
       have hisv : isS t now ((posS t th).getD k []) = true := by cases hh : isS t now ((posS t th).getD k []) with | true => rfl | false => rw [hh] at c42; cases c42
       refine skip ?_
       show Code.wp _ _ _ _ _
       refine region ?_
       refine sv (yAdd h33 rfl ⟨by omega, by omega⟩) ?_
       refine sv (yMove rfl) ?_
       refine nil ?_
       exact ⟨_, _, rfl, ⟨k + 1, _, ov', os', mo', h6, h9, h31, h32, rfl, (by rw [rul_no hisv]; exact ruled_back1 hS), (by omega), (hown'), rfl⟩, by omega⟩
     ·
      simp only [BS, ne_eq] at c34
      obtain rfl : k = (posS t th).length := by omega
      refine exit ?_
      show Code.wp _ _ _ _ _
      refine seq ?_
      refine region ?_
      refine sv (yMove h6) ?_
      refine sv (yAsg rfl) ?_
      refine sv (yAsg rfl) ?_
      refine nil ?_
      show Code.wp _ _ _ _ _
      refine wp_ret ?_
      refine retQ (res2 rfl rfl rfl) ?_
      have hE : rulE t now th = 0 := by unfold rulE; rw [if_neg (fun k => k he), if_neg (fun k => k he2)]
      have hf : rulR t now th = (rulL t now th (posS t th).length, 0) := by unfold rulR; rw [hE, if_neg (by decide)]
      rw [hf]
      exact ⟨_, [rowI (pv) 3 1 (rulL t now th (posS t th).length).length ((rulL t now th (posS t th).length).flatMap Bx.encI)], rfl, fun w2 hi => sl_ints (hi (rowI (pv) 3 1 (rulL t now th (posS t th).length).length ((rulL t now th (posS t th).length).flatMap Bx.encI)) (by simp)) rfl rul_i64, its1 (hS.sub (.cons _ (.cons _ (.cons _ (.cons _ (.cons _ (List.Sublist.refl _)))))))⟩
end Go.Proofs.YtgidbailiababaaGreatDoor

/- part Sx11 -/
namespace Go.Proofs.YtgidbailiababaaGreatDoor
open Go Bx
set_option maxHeartbeats 2000000 in
/-- barrage/surge.Tube -/
theorem c_Tube {t : Sgt} {cv : Value} {ag ak ae : Option Addr} {cg ck ce : Nat} {fi mi : Int} {w0 : World} (h : RSgt w0 [.int .i64 t.table.mean, cv, .slice ag t.gauges.length cg, .int .i64 t.wrong, .int .i64 t.frm, .int .i64 t.ticks, .slice ak t.ctrs.length ck, .slice ae t.fcs.length ce, .int .i64 t.least, .int .i64 t.most, .int .i64 t.rate, .int .i64 t.quorum] t) (hg : Glb w0) (hF0 : I64 fi) (hM0 : I64 mi) : CE Tryz.prog 41 #[.agg [.int .i64 t.table.mean, cv, .slice ag t.gauges.length cg, .int .i64 t.wrong, .int .i64 t.frm, .int .i64 t.ticks, .slice ak t.ctrs.length ck, .slice ae t.fcs.length ce, .int .i64 t.least, .int .i64 t.most, .int .i64 t.rate, .int .i64 t.quorum].toArray, .int .i64 fi, .int .i64 mi] w0 (fun u w' => ∃ v its, u = .tuple #[v, .int .i64 (tubR t fi mi).2] ∧ (∀ w2 : World, (∀ it ∈ its, it.ok w2) → Sl w2 2 RSpan v ((tubR t fi mi).1)) ∧ St w0 w' [packI its]) := by
 obtain ⟨hT, hG, hw64, hf64, hk64, hC, hF, hl64, hm64, hr64, hq64⟩ := RSgt.parts h
 have hI : I64 0 := ⟨by decide, by decide⟩
 have hask : askE t 0 = (checkS t).2.2 := by
  unfold askE
  split
  ·
   rfl
  ·
   next h => rw [if_neg (by decide)]; exact (Decidable.not_not.1 h).symm
 refine enter Tryz.func41 rfl Tryz.ntmps41 rfl ?_
 have hS := St.start w0
 refine seq ?_
 refine region ?_
 refine sbox hS rfl rfl ?_; clear hS; intro b3 w hS
 refine sv (yAsg rfl) ?_
 refine sv (yAsg rfl) ?_
 refine nil ?_
 show Code.wp _ _ _ _ _
 refine seq ?_
 refine region ?_
 refine sv (yLdBA rfl Tryz.isAgg29 Tryz.sizeOf29 (hS.at _) rfl rfl) ?_
 refine scall Tryz.call63 (.cons rfl (.cons rfl .nil)) (c_with (h.ext hS.ext) hI) ?_
 rintro _ w (⟨he, rfl, hE⟩ | ⟨he, bk, aw, cw, ax, cx, rfl, hM⟩)
 ·
  replace hS := hS.step hE; clear hE
  refine sv (yMove rfl) ?_
  refine sv (yExt rfl rfl) ?_
  refine sv (yExt rfl rfl) ?_
  refine sv (yAsg rfl) ?_
  refine sv (yAsg rfl) ?_
  refine nil ?_
  show Code.wp _ _ _ _ _
  refine seq ?_
  refine block ?_
  refine seq ?_
  refine region ?_
  refine sv (yMove rfl) ?_
  refine sv (yNeq rfl rfl) ?_
  refine sv (yAsg rfl) ?_
  refine nil ?_
  show Code.wp _ _ _ _ _
  refine cond rfl (fun c15 => ?_) (fun c15 => ?_)
  ·
   simp only [BS, ne_eq] at c15
   refine seq ?_
   refine region ?_
   refine sv (yMove rfl) ?_
   refine sv (yAsg rfl) ?_
   refine sv (yAsg rfl) ?_
   refine nil ?_
   show Code.wp _ _ _ _ _
   refine wp_ret (blockR (thenR ?_))
   refine retQ (res2 rfl rfl rfl) ?_
   have hE : tubE t fi mi = askE t 0 := by unfold tubE; rw [← hask, if_pos he]
   have hf : tubR t fi mi = ([], askE t 0) := by unfold tubR; rw [hE, if_pos he]
   rw [hf]
   exact ⟨_, [], rfl, fun _ _ => sl_none, its0 hS⟩
  ·
   simp only [BS, ne_eq] at c15
   exact absurd c15 he
 ·
  replace hS := hS.call hM; clear hM
  replace hS : StX [] w0 w [blk bk [.int .i64 t.table.mean, cv, .slice ag t.gauges.length cg, .int .i64 t.wrong, .int .i64 t.frm, .int .i64 t.ticks, .slice ak t.ctrs.length ck, .slice ae t.fcs.length ce, .int .i64 t.least, .int .i64 t.most, .int .i64 t.rate, .int .i64 t.quorum, .int .i64 0, .slice aw t.ticks.toNat cw, .slice ax t.ctrs.length cx, .slice none 0 0] 123, rowI (.slice aw t.ticks.toNat cw) 74 2 t.ticks.toNat ((tidesS t).flatMap spanC), rowI (.slice ax t.ctrs.length cx) 3 1 t.ctrs.length ((curS t 0).flatMap Bx.encI), blk b3 [.int .i64 t.table.mean, cv, .slice ag t.gauges.length cg, .int .i64 t.wrong, .int .i64 t.frm, .int .i64 t.ticks, .slice ak t.ctrs.length ck, .slice ae t.fcs.length ce, .int .i64 t.least, .int .i64 t.most, .int .i64 t.rate, .int .i64 t.quorum] 29] := hS
  obtain ⟨hok, hnow⟩ := askE_ok he
  have htk := hok.tk
  have hnc := hok.nc
  have hnf := hok.nf
  refine sv (yMove rfl) ?_
  refine sv (yExt rfl rfl) ?_
  refine sv (yExt rfl rfl) ?_
  refine sv (yAsg rfl) ?_
  refine sv (yAsg rfl) ?_
  refine nil ?_
  show Code.wp _ _ _ _ _
  refine seq ?_
  refine block ?_
  refine seq ?_
  refine region ?_
  refine sv (yMove rfl) ?_
  refine sv (yNeq rfl rfl) ?_
  refine sv (yAsg rfl) ?_
  refine nil ?_
  show Code.wp _ _ _ _ _
  refine cond rfl (fun c15 => ?_) (fun c15 => ?_)
  ·
   exact absurd c15 (by decide)
  ·
   refine seq ?_
   rcases Bool.eq_false_or_eq_true (outB fi 0 (t.fcs.length - 1)) with hob | hob
   ·
    refine region ?_
    refine sv (yMove rfl) ?_
    refine sv (fa29_6 rfl) ?_
    refine sv (yLdB rfl Tryz.isAgg27 (hS.at _) rfl) ?_
    refine sv (yLen rfl Tryz.underlying27) ?_
    refine sv (ySub rfl rfl ⟨by omega, by omega⟩) ?_
    refine scall Tryz.call53 (.cons rfl (.cons rfl (.cons rfl .nil))) c_outS ?_
    rintro _ w ⟨rfl, hE⟩; replace hS := hS.step hE; clear hE
    refine sv (yMove rfl) ?_
    refine ungn (v := .bool (outB fi 0 (t.fcs.length - 1))) rfl rfl rfl (by rw [hob]; simp) ?_
    refine ungn (v := .bool (outB fi 0 (t.fcs.length - 1))) rfl rfl rfl (by rw [hob]; simp) ?_
    refine ungn (v := .bool (outB fi 0 (t.fcs.length - 1))) rfl rfl rfl (by rw [hob]; simp) ?_
    refine ungn (v := .bool (outB fi 0 (t.fcs.length - 1))) rfl rfl rfl (by rw [hob]; simp) ?_
    refine ungn (v := .bool (outB fi 0 (t.fcs.length - 1))) rfl rfl rfl (by rw [hob]; simp) ?_
    refine ungn (v := .bool (outB fi 0 (t.fcs.length - 1))) rfl rfl rfl (by rw [hob]; simp) ?_
    refine ungn (v := .bool (outB fi 0 (t.fcs.length - 1))) rfl rfl rfl (by rw [hob]; simp) ?_
    refine ungn (v := .bool (outB fi 0 (t.fcs.length - 1))) rfl rfl rfl (by rw [hob]; simp) ?_
    refine ungn (v := .bool (outB fi 0 (t.fcs.length - 1))) rfl rfl rfl (by rw [hob]; simp) ?_
    refine ungn (v := .bool (outB fi 0 (t.fcs.length - 1))) rfl rfl rfl (by rw [hob]; simp) ?_
    refine sv (yPick (v := .bool (outB fi 0 (t.fcs.length - 1))) (B := outB fi 0 (t.fcs.length - 1)) rfl (fun _ => by rw [hob]; rfl) (fun h => absurd (hob.symm.trans h) (by decide))) ?_
    refine sv (yAsg rfl) ?_
    refine nil ?_
    show Code.wp _ _ _ _ _
    refine cond rfl (fun c19 => ?_) (fun c19 => ?_)
    ·
     refine seq ?_
     refine region ?_
     refine sv (yAsg rfl) ?_
     refine sv (yAsg rfl) ?_
     refine nil ?_
     show Code.wp _ _ _ _ _
     refine wp_ret (blockR (thenR ?_))
     refine retQ (res2 rfl rfl rfl) ?_
     have hE : tubE t fi mi = 4 := by unfold tubE; rw [← hask, if_neg (fun k => k he), hob]; rfl
     have hf : tubR t fi mi = ([], 4) := by unfold tubR; rw [hE, if_pos (by decide)]
     rw [hf]
     exact ⟨_, [], rfl, fun _ _ => sl_none, its0 hS⟩
    ·
     rw [hob] at c19; cases c19
   ·
    obtain ⟨hi0, hi1⟩ := outB_false.1 hob
    have hfl : fi.toNat < t.fcs.length := by omega
    have hfo := hok.fcts hfl
    have hnm := hfo.nm
    obtain ⟨bf, of, csf, haf, -, hcf, hRf, -⟩ := sl_at hF (fct_get hfl)
    obtain ⟨mv, rfl, hf1, hf2, hf3, hMm⟩ := id hRf
    obtain ⟨am, cm, rfl, hmcap, hmmx, -⟩ := id hMm
    refine region ?_
    refine sv (yMove rfl) ?_
    refine sv (fa29_6 rfl) ?_
    refine sv (yLdB rfl Tryz.isAgg27 (hS.at _) rfl) ?_
    refine sv (yLen rfl Tryz.underlying27) ?_
    refine sv (ySub rfl rfl ⟨by omega, by omega⟩) ?_
    refine scall Tryz.call53 (.cons rfl (.cons rfl (.cons rfl .nil))) c_outS ?_
    rintro _ w ⟨rfl, hE⟩; replace hS := hS.step hE; clear hE
    refine sv (yMove rfl) ?_
    refine ungo rfl rfl (congrArg Value.bool hob) ?_
    refine sv (yMove rfl) ?_
    refine ungo rfl rfl (congrArg Value.bool hob) ?_
    refine sv (fa29_6 rfl) ?_
    refine ungo rfl rfl (congrArg Value.bool hob) ?_
    refine sv (yLdB rfl Tryz.isAgg27 (hS.at _) rfl) ?_
    refine ungo rfl rfl (congrArg Value.bool hob) ?_
    refine sv (yMove rfl) ?_
    refine ungo rfl rfl (congrArg Value.bool hob) ?_
    refine sv (yIxa rfl haf (rfl.trans (congrArg (Value.int .i64) (show fi = ((fi.toNat : Nat) : Int) by omega))) Tryz.runUnderlying27 Tryz.sizeOf61 (by omega) (by omega)) ?_
    refine ungo rfl rfl (congrArg Value.bool hob) ?_
    refine sv (fa61_3 rfl) ?_
    refine ungo rfl rfl (congrArg Value.bool hob) ?_
    refine sv (yLd rfl Tryz.isAgg59 ((hcf.ext hS.ext).at (j := 3) rfl)) ?_
    refine ungo rfl rfl (congrArg Value.bool hob) ?_
    refine sv (yLen rfl Tryz.underlying59) ?_
    refine ungo rfl rfl (congrArg Value.bool hob) ?_
    refine sv (ySub rfl rfl ⟨by omega, by omega⟩) ?_
    refine ungo rfl rfl (congrArg Value.bool hob) ?_
    refine scall Tryz.call53 (.cons rfl (.cons rfl (.cons rfl .nil))) c_outS ?_
    rintro _ w ⟨rfl, hE⟩; replace hS := hS.step hE; clear hE
    refine sv (yPick (v := .bool (outB mi 0 ((fct t.fcs fi.toNat).members.length - 1))) (B := outB fi 0 (t.fcs.length - 1)) rfl (fun h => absurd (hob.symm.trans h) (by decide)) (fun _ => rfl)) ?_
    refine sv (yAsg rfl) ?_
    refine nil ?_
    show Code.wp _ _ _ _ _
    refine cond rfl (fun c19 => ?_) (fun c19 => ?_)
    ·
     refine seq ?_
     refine region ?_
     refine sv (yAsg rfl) ?_
     refine sv (yAsg rfl) ?_
     refine nil ?_
     show Code.wp _ _ _ _ _
     refine wp_ret (blockR (thenR ?_))
     refine retQ (res2 rfl rfl rfl) ?_
     have hE : tubE t fi mi = 4 := by unfold tubE; rw [← hask, if_neg (fun k => k he), hob, c19]; rfl
     have hf : tubR t fi mi = ([], 4) := by unfold tubR; rw [hE, if_pos (by decide)]
     rw [hf]
     exact ⟨_, [], rfl, fun _ _ => sl_none, its0 hS⟩
    ·
     obtain ⟨hm0, hm1⟩ := outB_false.1 c19
     obtain ⟨mn, rfl⟩ : ∃ mn : Nat, mi = mn := ⟨mi.toNat, by omega⟩
     refine skip ?_
     show Code.wp _ _ _ _ _
     refine seq ?_
     refine region ?_
     refine sv (yMove rfl) ?_
     refine sv (fa29_6 rfl) ?_
     refine sv (yLdB rfl Tryz.isAgg27 (hS.at _) rfl) ?_
     refine sv (yMove rfl) ?_
     refine sv (yIxa rfl haf (rfl.trans (congrArg (Value.int .i64) (show fi = ((fi.toNat : Nat) : Int) by omega))) Tryz.runUnderlying27 Tryz.sizeOf61 (by omega) (by omega)) ?_
     refine sv (yLdA rfl Tryz.isAgg61 Tryz.sizeOf61 (hcf.ext hS.ext) rfl) ?_
     refine sv (yMove rfl) ?_
     refine scall Tryz.call83 (.cons rfl (.cons rfl (.cons rfl .nil))) (c_tubeS (now := 0) ⟨cv, ag, cg, ak, ck, ae, ce, aw, cw, ax, cx, hS.at bk, RTable.stays _ _ _ _ hS.ext hT, hG.ext RGauge.stays hS.ext, hC.ext RCtr.stays hS.ext, hF.ext RFct.stays hS.ext, sl_spans (hS.row (.slice aw t.ticks.toNat cw)) (tidesS_len ..) (lbd_i64 (tides_lbd hok)), sl_ints (hS.row (.slice ax t.ctrs.length cx)) (curS_len ..) (cur_i64 hok)⟩ hok (hg.ext hS.ext) hfo (m := mn) (by omega) (hMm.ext RRow.stays hS.ext)) ?_
     rintro tv w hM; replace hS := hS.call1 hM; clear hM
     have htl := tubeS_lbd hok hfo (show mn < (fct t.fcs fi.toNat).members.length by omega)
     refine sv (yAsg rfl) ?_
     refine sv (yAsg rfl) ?_
     refine nil ?_
     show Code.wp _ _ _ _ _
     refine wp_ret ?_
     refine retQ (res2 rfl rfl rfl) ?_
     have hE : tubE t fi mn = 0 := by unfold tubE; rw [← hask, if_neg (fun k => k he), hob, c19]; rfl
     have hf : tubR t fi mn = (tubeS t (fct t.fcs fi.toNat) (mem (fct t.fcs fi.toNat) mn), 0) := by unfold tubR; rw [hE, if_neg (by decide)]; rfl
     rw [hf]
     exact ⟨_, [rowI (tv) 74 2 t.ticks.toNat ((tubeS t (fct t.fcs fi.toNat) (mem (fct t.fcs fi.toNat) mn)).flatMap spanC)], rfl, fun w2 hi => sl_spans (hi (rowI (tv) 74 2 t.ticks.toNat ((tubeS t (fct t.fcs fi.toNat) (mem (fct t.fcs fi.toNat) mn)).flatMap spanC)) (by simp)) (tubeS_len ..) (lbd_i64 htl), its1 hS⟩
end Go.Proofs.YtgidbailiababaaGreatDoor

/- part Sx12 -/
namespace Go.Proofs.YtgidbailiababaaGreatDoor
open Go Bx
set_option maxHeartbeats 4000000 in
/-- barrage/surge.Boxes -/
theorem c_Boxes {t : Sgt} {cv : Value} {ag ak ae : Option Addr} {cg ck ce : Nat} {now : Int} {w0 : World} (h : RSgt w0 [.int .i64 t.table.mean, cv, .slice ag t.gauges.length cg, .int .i64 t.wrong, .int .i64 t.frm, .int .i64 t.ticks, .slice ak t.ctrs.length ck, .slice ae t.fcs.length ce, .int .i64 t.least, .int .i64 t.most, .int .i64 t.rate, .int .i64 t.quorum] t) (hg : Glb w0) (hI : I64 now) : CE Tryz.prog 20 #[.agg [.int .i64 t.table.mean, cv, .slice ag t.gauges.length cg, .int .i64 t.wrong, .int .i64 t.frm, .int .i64 t.ticks, .slice ak t.ctrs.length ck, .slice ae t.fcs.length ce, .int .i64 t.least, .int .i64 t.most, .int .i64 t.rate, .int .i64 t.quorum].toArray, .int .i64 now] w0 (fun u w' => ∃ v its, u = .tuple #[v, .int .i64 (boxR t now).2] ∧ (∀ w2 : World, (∀ it ∈ its, it.ok w2) → Sl w2 5 RBxs v (((boxR t now).1).map (toBxs t.frm))) ∧ St w0 w' [packI its]) := by
 obtain ⟨hT, hG, hw64, hf64, hk64, hC, hF, hl64, hm64, hr64, hq64⟩ := RSgt.parts h
 refine enter Tryz.func20 rfl Tryz.ntmps20 rfl ?_
 have hS := St.start w0
 refine seq ?_
 refine region ?_
 refine sbox hS rfl rfl ?_; clear hS; intro b2 w hS
 refine sv (yAsg rfl) ?_
 refine sv (yAsg rfl) ?_
 refine nil ?_
 show Code.wp _ _ _ _ _
 refine seq ?_
 refine region ?_
 refine sv (yLdBA rfl Tryz.isAgg29 Tryz.sizeOf29 (hS.at _) rfl rfl) ?_
 refine sv (yMove rfl) ?_
 refine scall Tryz.call63 (.cons rfl (.cons rfl .nil)) (c_with (h.ext hS.ext) hI) ?_
 rintro _ w (⟨he, rfl, hE⟩ | ⟨he, bk, aw, cw, ax, cx, rfl, hM⟩)
 ·
  replace hS := hS.step hE; clear hE
  refine sv (yMove rfl) ?_
  refine sv (yExt rfl rfl) ?_
  refine sv (yExt rfl rfl) ?_
  refine sv (yAsg rfl) ?_
  refine sv (yAsg rfl) ?_
  refine nil ?_
  show Code.wp _ _ _ _ _
  refine seq ?_
  refine seq ?_
  refine region ?_
  refine sv (yMove rfl) ?_
  refine sv (yNeq rfl rfl) ?_
  refine nil ?_
  show Code.wp _ _ _ _ _
  refine cond rfl (fun c16 => ?_) (fun c16 => ?_)
  ·
   simp only [BS, ne_eq] at c16
   refine seq ?_
   refine region ?_
   refine sv (yMove rfl) ?_
   refine sv (yAsg rfl) ?_
   refine sv (yAsg rfl) ?_
   refine nil ?_
   show Code.wp _ _ _ _ _
   refine wp_ret (thenR ?_)
   refine retQ (res2 rfl rfl rfl) ?_
   have hf : boxR t now = ([], askE t now) := by unfold boxR; rw [if_pos he]
   rw [hf]
   exact ⟨_, [], rfl, fun _ _ => sl_none, its0 hS⟩
  ·
   simp only [BS, ne_eq] at c16
   exact absurd c16 he
 ·
  replace hS := hS.call hM; clear hM
  replace hS : StX [] w0 w [blk bk [.int .i64 t.table.mean, cv, .slice ag t.gauges.length cg, .int .i64 t.wrong, .int .i64 t.frm, .int .i64 t.ticks, .slice ak t.ctrs.length ck, .slice ae t.fcs.length ce, .int .i64 t.least, .int .i64 t.most, .int .i64 t.rate, .int .i64 t.quorum, .int .i64 now, .slice aw t.ticks.toNat cw, .slice ax t.ctrs.length cx, .slice none 0 0] 123, rowI (.slice aw t.ticks.toNat cw) 74 2 t.ticks.toNat ((tidesS t).flatMap spanC), rowI (.slice ax t.ctrs.length cx) 3 1 t.ctrs.length ((curS t now).flatMap Bx.encI), blk b2 [.int .i64 t.table.mean, cv, .slice ag t.gauges.length cg, .int .i64 t.wrong, .int .i64 t.frm, .int .i64 t.ticks, .slice ak t.ctrs.length ck, .slice ae t.fcs.length ce, .int .i64 t.least, .int .i64 t.most, .int .i64 t.rate, .int .i64 t.quorum] 29] := hS
  obtain ⟨hok, hnow⟩ := askE_ok he
  have htk := hok.tk
  have hnc := hok.nc
  have hnf := hok.nf
  refine sv (yMove rfl) ?_
  refine sv (yExt rfl rfl) ?_
  refine sv (yExt rfl rfl) ?_
  refine sv (yAsg rfl) ?_
  refine sv (yAsg rfl) ?_
  refine nil ?_
  show Code.wp _ _ _ _ _
  refine seq ?_
  refine seq ?_
  refine region ?_
  refine sv (yMove rfl) ?_
  refine sv (yNeq rfl rfl) ?_
  refine nil ?_
  show Code.wp _ _ _ _ _
  refine cond rfl (fun c16 => ?_) (fun c16 => ?_)
  ·
   exact absurd c16 (by decide)
  ·
   refine skip ?_
   show Code.wp _ _ _ _ _
   refine seq ?_
   refine seq ?_
   refine region ?_
   refine sv (yMove rfl) ?_
   refine scall Tryz.call64 (.cons rfl .nil) (c_boxes h hok hnow hg (.inl ⟨rfl, rfl, rfl⟩) ((hS.nilrow 74 2).perm (List.Perm.swap _ _ _))) ?_
   rintro bv w ⟨ov', ms, ls, hs, hl1, hl2, hl3, hM⟩; clear hS; have hS := hM; clear hM
   obtain ⟨av, cv2, rfl⟩ := row_shape (hS.row bv)
   have hbn : (boxS t now).length ≤ 625 := Nat.le_trans boxL_len (cho_bd hok)
   refine sv (yLen rfl Tryz.underlying110) ?_
   refine sv (yMove rfl) ?_
   refine nil ?_
   show Code.wp _ _ _ _ _
   refine block ?_
   refine loop (fun f w zz => ∃ (k : Nat) (pv : Value), f 4 = pv ∧ f 19 = .slice av (boxS t now).length cv2 ∧ f 20 = .int .i64 ((boxS t now).length : Int) ∧ f 21 = .int .i64 (k : Int) ∧ StX [] w0 w (rowI pv 43 5 k (boxC t.frm ms ls hs k) :: rowI (.slice av (boxS t now).length cv2) 115 9 (boxS t now).length (bxCs t.frm ((boxS t now).map Bo.mem) ms ls hs).flatten :: packI (inI ms ((boxS t now).map Bo.mem)) :: packI (inI ls ((boxS t now).map lowB)) :: packI (inI hs ((boxS t now).map highB)) :: blk bk [.int .i64 t.table.mean, cv, .slice ag t.gauges.length cg, .int .i64 t.wrong, .int .i64 t.frm, .int .i64 t.ticks, .slice ak t.ctrs.length ck, .slice ae t.fcs.length ce, .int .i64 t.least, .int .i64 t.most, .int .i64 t.rate, .int .i64 t.quorum, .int .i64 now, .slice aw t.ticks.toNat cw, .slice ax t.ctrs.length cx, ov'] 123 :: rowI (ov') 74 2 t.ticks.toNat ((baseS t now).flatMap spanC) :: rowI (.slice aw t.ticks.toNat cw) 74 2 t.ticks.toNat ((tidesS t).flatMap spanC) :: rowI (.slice ax t.ctrs.length cx) 3 1 t.ctrs.length ((curS t now).flatMap Bx.encI) :: blk b2 [.int .i64 t.table.mean, cv, .slice ag t.gauges.length cg, .int .i64 t.wrong, .int .i64 t.frm, .int .i64 t.ticks, .slice ak t.ctrs.length ck, .slice ae t.fcs.length ce, .int .i64 t.least, .int .i64 t.most, .int .i64 t.rate, .int .i64 t.quorum] 29 :: []) ∧ (k ≤ (boxS t now).length) ∧ zz = (boxS t now).length - k) _ ⟨_, rfl, 0, _, rfl, rfl, rfl, rfl, (hS.nilrow 43 5), (Nat.zero_le _), rfl⟩ ?_
   clear hS
   rintro f w _ ⟨k, pv, h4, h19, h20, h21, hS, hk, rfl⟩
   refine seq ?_
   refine region ?_
   refine sv (yLss h21 h20) ?_
   refine nil ?_
   show Code.wp _ _ _ _ _
   refine seq ?_
   refine cond rfl (fun c22 => ?_) (fun c22 => ?_)
   ·
    simp only [BS, ne_eq] at c22
    have hkn : k < (boxS t now).length := by omega
    obtain ⟨gb, am, cm, al, cl, ah, ch, hgb, hcb, hes, -, -, hsh0⟩ := (bx_at (hS.row (.slice av (boxS t now).length cv2)) hkn rfl hl1 hl2 hl3 (fun b hb => box_ok hok hb) (hS.ok (packI (inI ms ((boxS t now).map Bo.mem))) (by simp)) (hS.ok (packI (inI ls ((boxS t now).map lowB))) (by simp)) (hS.ok (packI (inI hs ((boxS t now).map highB))) (by simp)))
    refine skip ?_
    show Code.wp _ _ _ _ _
    refine seq ?_
    refine block ?_
    refine seq ?_
    refine region ?_
    refine sv (yIxa h19 hgb h21 Tryz.runUnderlying110 Tryz.sizeOf115 (by omega) (by omega)) ?_
    refine sv (yLdA rfl Tryz.isAgg115 Tryz.sizeOf115 hcb rfl) ?_
    refine salloc hS Tryz.zeroValue115 rfl ?_; clear hS; intro b8 w hS
    refine sst hS rfl rfl Tryz.sizeOf115 rfl rfl rfl rfl ?_; clear hS; intro w hS
    refine nil ?_
    show Code.wp _ _ _ _ _
    refine region ?_
    refine sv (yMove h4) ?_
    refine sv (fa115_1 rfl) ?_
    refine sv (yLdBA rfl Tryz.isAgg43 Tryz.sizeOf43 (hS.at _) rfl rfl) ?_
    refine sbslice hS Tryz.underlying35 Tryz.sizeOf43 rfl Tryz.zeroValue43 rfl (.cons rfl rfl .nil) rfl ?_; clear hS; intro b28 w hS
    refine sapp (bytes := 88) (size := 5) (v := pv) (m := 1) hS rfl rfl Tryz.underlying35 ti43 rfl rfl rfl rfl (by decide) (blk_cells (hS.at _)) rfl rfl (by omega) (by omega) ?_; clear hS; intro v29 w hS
    refine sv (yAsg rfl) ?_
    refine nil ?_
    show Code.wp _ _ _ _ _
    refine region ?_
    refine sv (yAdd h21 rfl ⟨by omega, by omega⟩) ?_
    refine sv (yMove rfl) ?_
    refine nil ?_
    exact ⟨_, _, rfl, ⟨k + 1, _, rfl, h19, h20, rfl, (by rw [boxC_succ, hes.1, hes.2.1, hes.2.2]; exact hS.sub (.cons _ (.cons _ (List.Sublist.refl _)))), (by omega), rfl⟩, by omega⟩
   ·
    simp only [BS, ne_eq] at c22
    obtain rfl : k = (boxS t now).length := by omega
    refine exit ?_
    show Code.wp _ _ _ _ _
    refine seq ?_
    refine region ?_
    refine sv (yMove h4) ?_
    refine sv (yAsg rfl) ?_
    refine sv (yAsg rfl) ?_
    refine nil ?_
    show Code.wp _ _ _ _ _
    refine wp_ret ?_
    refine retQ (res2 rfl rfl rfl) ?_
    have hf : boxR t now = (boxS t now, 0) := by unfold boxR; rw [if_neg (fun k => k he)]
    rw [hf]
    exact ⟨_, [rowI pv 43 5 (boxS t now).length (boxC t.frm ms ls hs (boxS t now).length), rowI (.slice av (boxS t now).length cv2) 115 9 (boxS t now).length (bxCs t.frm ((boxS t now).map Bo.mem) ms ls hs).flatten, packI (inI ms ((boxS t now).map Bo.mem)), packI (inI ls ((boxS t now).map lowB)), packI (inI hs ((boxS t now).map highB))], rfl, fun w2 hi => box_sl (hi (rowI pv 43 5 (boxS t now).length (boxC t.frm ms ls hs (boxS t now).length)) (by simp)) rfl hf64 hl1 hl2 hl3 (fun b hb => box_ok hok hb) (hi (packI (inI ms ((boxS t now).map Bo.mem))) (by simp)) (hi (packI (inI ls ((boxS t now).map lowB))) (by simp)) (hi (packI (inI hs ((boxS t now).map highB))) (by simp)), StX.pack (M := [rowI pv 43 5 (boxS t now).length (boxC t.frm ms ls hs (boxS t now).length), rowI (.slice av (boxS t now).length cv2) 115 9 (boxS t now).length (bxCs t.frm ((boxS t now).map Bo.mem) ms ls hs).flatten, packI (inI ms ((boxS t now).map Bo.mem)), packI (inI ls ((boxS t now).map lowB)), packI (inI hs ((boxS t now).map highB))]) (hS.sub (.cons_cons _ (.cons_cons _ (.cons_cons _ (.cons_cons _ (.cons_cons _ (List.nil_sublist _)))))))⟩
end Go.Proofs.YtgidbailiababaaGreatDoor

/- part S23 -/
namespace Bx
open Go Go.RowKit
def exC1 : Ctr := ⟨⟨#[109, 101, 116]⟩, 2, 100, 50⟩
def exC2 : Ctr := ⟨⟨#[111, 99, 101, 97, 110]⟩, 5, 200, 0⟩
def exF1 : Fct := ⟨0, 88, 100, [[1000, 1500, 2000], [500, 700, 900]]⟩
def exF2 : Fct := ⟨1, 90, 101, [[2500, 2600]]⟩
def exF3 : Fct := ⟨0, 94, 100, [[1200, 1800, 2600]]⟩
def exS : Sgt := ⟨⟨0, []⟩, [], 0, 100, 3, [exC1, exC2], [exF1, exF2, exF3], -500, 4000, 800, 1⟩
theorem exs_rs {w : World} {cv fv : Value} (hc : Sl w 4 RCtr cv [exC1, exC2]) (hf : Sl w 4 RFct fv [exF1, exF2, exF3]) : RSgt w [.int .i64 0, .slice none 0 0, .slice none 0 0, .int .i64 0, .int .i64 100, .int .i64 3, cv, fv, .int .i64 (-500), .int .i64 4000, .int .i64 800, .int .i64 1] exS :=
  ⟨_, _, _, _, rfl, ⟨_, rfl, by decide, sl_none⟩, sl_none, by decide, by decide, by decide, hc, hf, by decide, by decide, by decide, by decide⟩
theorem exs_pos : posR exS 95 = ([[3500, 2700, 2800]], 0) := by decide +kernel
theorem exs_rul : rulR exS 96 90 = ([0], 0) := by decide +kernel
theorem exs_tub : tubR exS 3 0 = ([], 4) := by decide +kernel
end Bx

/- part Sx14 -/
namespace Go.Proofs.YtgidbailiababaaGreatDoor
open Go Bx
set_option maxHeartbeats 1000000 in
/-- barrage/barrageref02.Ints -/
theorem c_Ints {va vb : Value} {a b : List Int} {w0 : World} (ha : Sl w0 1 RInt va a) (hb : Sl w0 1 RInt vb b) : CV Tryz.prog 22 #[va, vb] w0 (.bool (decide (a = b))) := by
 obtain ⟨aa, ca, rfl, hacap, hamx, -⟩ := id ha
 obtain ⟨ab, cb, rfl, -⟩ := id hb
 refine enter Tryz.func22 rfl Tryz.ntmps22 rfl ?_
 have hS := St.start w0
 refine seq ?_
 refine region ?_
 refine sv (yAsg rfl) ?_
 refine nil ?_
 show Code.wp _ _ _ _ _
 refine seq ?_
 refine seq ?_
 refine region ?_
 refine sv (yMove rfl) ?_
 refine sv (yLen rfl Tryz.underlying39) ?_
 refine sv (yMove rfl) ?_
 refine sv (yLen rfl Tryz.underlying39) ?_
 refine sv (yNeq rfl rfl) ?_
 refine nil ?_
 show Code.wp _ _ _ _ _
 refine cond rfl (fun c10 => ?_) (fun c10 => ?_)
 ·
  simp only [BS, ne_eq] at c10
  refine seq ?_
  refine region ?_
  refine sv (yAsg rfl) ?_
  refine nil ?_
  show Code.wp _ _ _ _ _
  refine wp_ret (thenR ?_)
  exact retV (res1 rfl (congrArg Value.bool (show false = decide (a = b) from (decide_eq_false (fun e => by rw [e] at c10; exact c10 rfl)).symm))) hS.ext
 ·
  simp only [BS, ne_eq] at c10
  have hl : a.length = b.length := by omega
  refine skip ?_
  show Code.wp _ _ _ _ _
  refine seq ?_
  refine seq ?_
  refine region ?_
  refine sv (yAsg rfl) ?_
  refine nil ?_
  show Code.wp _ _ _ _ _
  refine block ?_
  refine loop (fun f w zz => ∃ (k : Nat), f 0 = .slice aa a.length ca ∧ f 1 = .slice ab b.length cb ∧ f 5 = .int .i64 (k : Int) ∧ StX [] w0 w [] ∧ (k ≤ a.length) ∧ (∀ i, i < k → a[i]? = b[i]?) ∧ zz = a.length - k) _ ⟨_, rfl, 0, rfl, rfl, rfl, hS, (Nat.zero_le _), (fun i hi => absurd hi (Nat.not_lt_zero _)), rfl⟩ ?_
  clear hS
  rintro f w _ ⟨k, h0, h1, h5, hS, hk, hA, rfl⟩
  refine seq ?_
  refine seq ?_
  refine region ?_
  refine sv (yMove h5) ?_
  refine sv (yMove h0) ?_
  refine sv (yLen rfl Tryz.underlying39) ?_
  refine sv (yLss rfl rfl) ?_
  refine nil ?_
  show Code.wp _ _ _ _ _
  refine cond rfl (fun c14 => ?_) (fun c14 => ?_)
  ·
   simp only [BS, ne_eq] at c14
   have hkl : k < a.length := by omega
   obtain ⟨bx, ox, cx, hax, hlx, hcx, hRx, -⟩ := sl_at ha (show a[k]? = some (a.getD k 0) by simp [hkl])
   obtain ⟨rfl, -⟩ := hRx
   obtain ⟨by0, oy, cy, hay, hly, hcy, hRy, -⟩ := sl_at hb (show b[k]? = some (b.getD k 0) by simp [show k < b.length by omega])
   obtain ⟨rfl, -⟩ := hRy
   refine skip ?_
   show Code.wp _ _ _ _ _
   refine seq ?_
   refine block ?_
   refine seq ?_
   refine region_draw mixed (by kernel_rfl) hS ?_
   refine qv (fun w hS => (yMove h0)) ?_
   refine qv (fun w hS => (yMove h5)) ?_
   refine qv (fun w hS => (yIxa rfl hax rfl Tryz.runUnderlying39 Tryz.sizeOf3 (by omega) (by omega))) ?_
   refine qv (fun w hS => (yLd rfl Tryz.isAgg3 (hcx.ext hS.ext).one)) ?_
   refine qv (fun w hS => (yMove h1)) ?_
   refine qv (fun w hS => (yMove h5)) ?_
   refine qv (fun w hS => (yIxa rfl hay rfl Tryz.runUnderlying39 Tryz.sizeOf3 (by omega) (by omega))) ?_
   refine qv (fun w hS => (yLd rfl Tryz.isAgg3 (hcy.ext hS.ext).one)) ?_
   refine qv (fun w hS => (yNeq rfl rfl)) ?_
   clear hS; refine qnil (fun w hS => ?_)
   show Code.wp _ _ _ _ _
   refine cond rfl (fun c25 => ?_) (fun c25 => ?_)
   ·
    simp only [BS, ne_eq] at c25
    refine seq ?_
    refine region ?_
    refine sv (yAsg rfl) ?_
    refine nil ?_
    show Code.wp _ _ _ _ _
    refine wp_ret (blockR (thenR (thenR (blockR (thenR ?_)))))
    exact retV (res1 rfl (congrArg Value.bool (show false = decide (a = b) from (decide_eq_false (fun e => by rw [e] at c25; exact c25 rfl)).symm))) hS.ext
   ·
    simp only [BS, ne_eq] at c25
    refine skip ?_
    show Code.wp _ _ _ _ _
    refine region ?_
    refine sv (yMove h5) ?_
    refine sv (yAdd rfl rfl ⟨by omega, by omega⟩) ?_
    refine sv (yAsg rfl) ?_
    refine nil ?_
    exact ⟨_, _, rfl, ⟨k + 1, h0, h1, rfl, hS, (by omega), (fun i hi => by
     by_cases e : i = k
     ·
      subst e
      rw [List.getElem?_eq_getElem hkl, List.getElem?_eq_getElem (show i < b.length by omega)]
      have e1 : a.getD i 0 = a[i] := by simp [hkl]
      have e2 : b.getD i 0 = b[i] := by simp [show i < b.length by omega]
      congr 1; omega
     ·
      exact hA i (by omega)), rfl⟩, by omega⟩
  ·
   simp only [BS, ne_eq] at c14
   obtain rfl : k = a.length := by omega
   refine exit ?_
   show Code.wp _ _ _ _ _
   refine seq ?_
   refine region ?_
   refine sv (yAsg rfl) ?_
   refine nil ?_
   show Code.wp _ _ _ _ _
   refine wp_ret ?_
   exact retV (res1 rfl (congrArg Value.bool (show true = decide (a = b) from (decide_eq_true (eq_of_get hl hA)).symm))) hS.ext
set_option maxHeartbeats 1000000 in
/-- barrage/barrageref02.Same -/
theorem c_Same {x y : Ser} {ca cb : List Value} {w0 : World} (hx : RSer w0 ca x) (hy : RSer w0 cb y) : CV Tryz.prog 23 #[.agg ca.toArray, .agg cb.toArray] w0 (.bool (decide (x = y))) := by
 obtain ⟨va, rfl, hfa, ha⟩ := hx
 obtain ⟨vb, rfl, hfb, hb⟩ := hy
 obtain ⟨aa, na, rfl, -⟩ := id ha
 obtain ⟨ab, nb, rfl, -⟩ := id hb
 refine enter Tryz.func23 rfl Tryz.ntmps23 rfl ?_
 have hS := St.start w0
 refine seq ?_
 refine region ?_
 refine sbox hS rfl rfl ?_; clear hS; intro b2 w hS
 refine sbox hS rfl rfl ?_; clear hS; intro b3 w hS
 refine sv (yAsg rfl) ?_
 refine nil ?_
 show Code.wp _ _ _ _ _
 refine seq ?_
 refine region ?_
 refine sv (fa41_0 rfl) ?_
 refine sv (yLdB rfl Tryz.isAgg3 (hS.at _) rfl) ?_
 refine sv (fa41_0 rfl) ?_
 refine sv (yLdB rfl Tryz.isAgg3 (hS.at _) rfl) ?_
 refine sv (yEql rfl rfl) ?_
 refine sv (yMove rfl) ?_
 refine sg rfl rfl rfl (fun g => (fa41_1 rfl)) (fun v11 g11 => ?_)
 refine sg rfl rfl rfl (fun g => (yLdB (g11.1 g) Tryz.isAgg39 (hS.at _) rfl)) (fun v12 g12 => ?_)
 refine sg rfl rfl rfl (fun g => (fa41_1 rfl)) (fun v13 g13 => ?_)
 refine sg rfl rfl rfl (fun g => (yLdB (g13.1 g) Tryz.isAgg39 (hS.at _) rfl)) (fun v14 g14 => ?_)
 refine sgc hS rfl rfl rfl Tryz.call22 (fun g => (.cons (g12.1 g) (.cons (g14.1 g) .nil))) (fun g => (c_Ints (ha.ext RInt.stays hS.ext) (hb.ext RInt.stays hS.ext))) ?_; clear hS; intro v15 w hS g15
 refine sv (yAnd rfl (fun hB => (g15.1 hB)) rfl) ?_
 refine sv (yAsg rfl) ?_
 refine nil ?_
 show Code.wp _ _ _ _ _
 refine wp_ret ?_
 exact retV (res1 rfl (congrArg Value.bool (by cases x; cases y; simp))) hS.ext
end Go.Proofs.YtgidbailiababaaGreatDoor

/- part Sx15 -/
namespace Go.Proofs.YtgidbailiababaaGreatDoor
open Go Bx
set_option maxHeartbeats 2000000 in
/-- barrage/barragelaw02.Example -/
theorem c_Example {w0 : World} : CE Tryz.prog 52 #[] w0 (fun u w' => ∃ bc bf, u = .agg [.int .i64 0, .slice none 0 0, .slice none 0 0, .int .i64 0, .int .i64 100, .int .i64 3, .slice (some ⟨bc, 0, none⟩) 2 2, .slice (some ⟨bf, 0, none⟩) 3 3, .int .i64 (-500), .int .i64 4000, .int .i64 800, .int .i64 1].toArray ∧ RSgt w' [.int .i64 0, .slice none 0 0, .slice none 0 0, .int .i64 0, .int .i64 100, .int .i64 3, .slice (some ⟨bc, 0, none⟩) 2 2, .slice (some ⟨bf, 0, none⟩) 3 3, .int .i64 (-500), .int .i64 4000, .int .i64 800, .int .i64 1] exS ∧ Ext w0 w') := by
 refine enter Tryz.func52 rfl Tryz.ntmps52 rfl ?_
 have hS := St.start w0
 refine seq ?_
 refine region ?_
 refine salloc hS Tryz.zeroValue29 rfl ?_; clear hS; intro b0 w hS
 refine nil ?_
 show Code.wp _ _ _ _ _
 refine seq ?_
 refine region ?_
 refine sv (yBuild Tryz.zeroValue57 rfl pl57 (.cons rfl rfl (.cons rfl rfl (.cons rfl rfl (.cons rfl rfl .nil)))) rfl) ?_
 refine sv (yBuild Tryz.zeroValue57 rfl pl57 (.cons rfl rfl (.cons rfl rfl (.cons rfl rfl .nil))) rfl) ?_
 refine sbslice hS Tryz.underlying26 Tryz.sizeOf57 rfl Tryz.zeroValue57 rfl (.cons rfl rfl (.cons rfl rfl .nil)) rfl ?_; clear hS; intro b3 w hS
 refine sbslice hS Tryz.underlying39 Tryz.sizeOf3 rfl Tryz.zeroValue3 rfl (.cons rfl rfl (.cons rfl rfl (.cons rfl rfl .nil))) rfl ?_; clear hS; intro b4 w hS
 refine sbslice hS Tryz.underlying39 Tryz.sizeOf3 rfl Tryz.zeroValue3 rfl (.cons rfl rfl (.cons rfl rfl (.cons rfl rfl .nil))) rfl ?_; clear hS; intro b5 w hS
 refine sbslice hS Tryz.underlying59 Tryz.sizeOf39 rfl Tryz.zeroValue39 rfl (.cons rfl rfl (.cons rfl rfl .nil)) rfl ?_; clear hS; intro b6 w hS
 refine sv (yBuild Tryz.zeroValue61 rfl pl61 (.cons rfl rfl (.cons rfl rfl (.cons rfl rfl .nil))) rfl) ?_
 refine sbslice hS Tryz.underlying39 Tryz.sizeOf3 rfl Tryz.zeroValue3 rfl (.cons rfl rfl (.cons rfl rfl .nil)) rfl ?_; clear hS; intro b8 w hS
 refine sbslice hS Tryz.underlying59 Tryz.sizeOf39 rfl Tryz.zeroValue39 rfl (.cons rfl rfl .nil) rfl ?_; clear hS; intro b9 w hS
 refine sv (yBuild Tryz.zeroValue61 rfl pl61 (.cons rfl rfl (.cons rfl rfl (.cons rfl rfl (.cons rfl rfl .nil)))) rfl) ?_
 refine sbslice hS Tryz.underlying39 Tryz.sizeOf3 rfl Tryz.zeroValue3 rfl (.cons rfl rfl (.cons rfl rfl (.cons rfl rfl .nil))) rfl ?_; clear hS; intro b11 w hS
 refine sbslice hS Tryz.underlying59 Tryz.sizeOf39 rfl Tryz.zeroValue39 rfl (.cons rfl rfl .nil) rfl ?_; clear hS; intro b12 w hS
 refine sv (yBuild Tryz.zeroValue61 rfl pl61 (.cons rfl rfl (.cons rfl rfl (.cons rfl rfl .nil))) rfl) ?_
 refine sbslice hS Tryz.underlying27 Tryz.sizeOf61 rfl Tryz.zeroValue61 rfl (.cons rfl rfl (.cons rfl rfl (.cons rfl rfl .nil))) rfl ?_; clear hS; intro b14 w hS
 refine sv (yBuild (r := [.int .i64 0, .slice none 0 0, .slice none 0 0, .int .i64 0, .int .i64 100, .int .i64 3, .slice (some ⟨b3, 0, none⟩) 2 2, .slice (some ⟨b14, 0, none⟩) 3 3, .int .i64 (-500), .int .i64 4000, .int .i64 800, .int .i64 1]) Tryz.zeroValue29 rfl pl29 (.cons rfl rfl (.cons rfl rfl (.cons rfl rfl (.cons rfl rfl (.cons rfl rfl (.cons rfl rfl (.cons rfl rfl (.cons rfl rfl .nil)))))))) (by kernel_rfl)) ?_
 refine sst hS rfl rfl Tryz.sizeOf29 rfl rfl rfl rfl ?_; clear hS; intro w hS
 refine nil ?_
 show Code.wp _ _ _ _ _
 refine wp_ret ?_
 refine retQ (resV1 rfl (rc rfl Tryz.isAgg29 Tryz.sizeOf29 (hS.at b0) rfl rfl)) ?_
 have hc := (show Sl w 4 RCtr (.slice (some ⟨b3, 0, none⟩) 2 2) ([exC1, exC2] : List Ctr) from sl_of_blk (hS.at b3) (css := [[.string ⟨#[109, 101, 116]⟩, .int .i64 2, .int .i64 100, .int .i64 50], [.string ⟨#[111, 99, 101, 97, 110]⟩, .int .i64 5, .int .i64 200, .int .i64 0]]) (l := ([exC1, exC2] : List Ctr)) rfl ⟨rfl, ⟨rfl, by decide, by decide, by decide, by decide⟩, rfl, ⟨rfl, by decide, by decide, by decide, by decide⟩, trivial⟩ (by decide) rfl)
 have hf := (show Sl w 4 RFct (.slice (some ⟨b14, 0, none⟩) 3 3) ([exF1, exF2, exF3] : List Fct) from sl_of_blk (hS.at b14) (css := [[.int .i64 0, .int .i64 88, .int .i64 100, .slice (some ⟨b6, 0, none⟩) 2 2], [.int .i64 1, .int .i64 90, .int .i64 101, .slice (some ⟨b9, 0, none⟩) 1 1], [.int .i64 0, .int .i64 94, .int .i64 100, .slice (some ⟨b12, 0, none⟩) 1 1]]) (l := ([exF1, exF2, exF3] : List Fct)) rfl ⟨rfl, ⟨_, rfl, by decide, by decide, by decide, (show Sl w 1 RRow (.slice (some ⟨b6, 0, none⟩) 2 2) ([[1000, 1500, 2000], [500, 700, 900]] : List (List Int)) from sl_of_blk (hS.at b6) (css := [[.slice (some ⟨b4, 0, none⟩) 3 3], [.slice (some ⟨b5, 0, none⟩) 3 3]]) (l := ([[1000, 1500, 2000], [500, 700, 900]] : List (List Int))) rfl ⟨rfl, ⟨_, rfl, (ints_sl (l := [1000, 1500, 2000]) (hS.at b4) (by decide) (by decide))⟩, rfl, ⟨_, rfl, (ints_sl (l := [500, 700, 900]) (hS.at b5) (by decide) (by decide))⟩, trivial⟩ (by decide) rfl)⟩, rfl, ⟨_, rfl, by decide, by decide, by decide, (show Sl w 1 RRow (.slice (some ⟨b9, 0, none⟩) 1 1) ([[2500, 2600]] : List (List Int)) from sl_of_blk (hS.at b9) (css := [[.slice (some ⟨b8, 0, none⟩) 2 2]]) (l := ([[2500, 2600]] : List (List Int))) rfl ⟨rfl, ⟨_, rfl, (ints_sl (l := [2500, 2600]) (hS.at b8) (by decide) (by decide))⟩, trivial⟩ (by decide) rfl)⟩, rfl, ⟨_, rfl, by decide, by decide, by decide, (show Sl w 1 RRow (.slice (some ⟨b12, 0, none⟩) 1 1) ([[1200, 1800, 2600]] : List (List Int)) from sl_of_blk (hS.at b12) (css := [[.slice (some ⟨b11, 0, none⟩) 3 3]]) (l := ([[1200, 1800, 2600]] : List (List Int))) rfl ⟨rfl, ⟨_, rfl, (ints_sl (l := [1200, 1800, 2600]) (hS.at b11) (by decide) (by decide))⟩, trivial⟩ (by decide) rfl)⟩, trivial⟩ (by decide) rfl)
 exact ⟨b3, b14, rfl, exs_rs hc hf, hS.ext⟩
end Go.Proofs.YtgidbailiababaaGreatDoor

/- part Sx16 -/
namespace Go.Proofs.YtgidbailiababaaGreatDoor
open Go Bx
set_option maxHeartbeats 4000000 in
/-- barrage/barragelaw02.Awake -/
theorem c_Awake {w0 : World} (hg : Glb w0) : CV Tryz.prog 19 #[] w0 (.bool true) := by
 refine enter Tryz.func19 rfl Tryz.ntmps19 rfl ?_
 have hS := St.start w0
 refine seq ?_
 refine region ?_
 refine sv (yAsg rfl) ?_
 refine nil ?_
 show Code.wp _ _ _ _ _
 refine seq ?_
 refine region ?_
 refine scall Tryz.call52 .nil c_Example ?_
 rintro _ w ⟨bc1, bf1, rfl, hT1, hE⟩; replace hS := hS.step hE; clear hE
 refine scall Tryz.call24 (.cons rfl (.cons rfl .nil)) (c_Possible (t := exS) (now := 95) hT1 (hg.ext hS.ext) ⟨by decide, by decide⟩) ?_
 rw [exs_pos]
 rintro _ w ⟨pv, is1, rfl, hi1, hM⟩; replace hS := hS.call1 hM; clear hM
 obtain ⟨ap, cp, rfl, -⟩ := hi1 w (fun it hi => hS.ok (packI is1) (by simp) it hi)
 refine sv (yMove rfl) ?_
 refine sv (yExt rfl rfl) ?_
 refine sv (yExt rfl rfl) ?_
 refine sv (yAsg rfl) ?_
 refine sv (yAsg rfl) ?_
 refine nil ?_
 show Code.wp _ _ _ _ _
 refine seq ?_
 refine region ?_
 refine scall Tryz.call52 .nil c_Example ?_
 rintro _ w ⟨bc2, bf2, rfl, hT2, hE⟩; replace hS := hS.step hE; clear hE
 refine scall Tryz.call33 (.cons rfl (.cons rfl (.cons rfl .nil))) (c_Ruled (t := exS) (th := 90) (now := 96) hT2 (hg.ext hS.ext) ⟨by decide, by decide⟩ ⟨by decide, by decide⟩) ?_
 rw [exs_rul]
 rintro _ w ⟨lv, is2, rfl, hi2, hM⟩; replace hS := hS.call1 hM; clear hM
 refine sv (yMove rfl) ?_
 refine sv (yExt rfl rfl) ?_
 refine sv (yExt rfl rfl) ?_
 refine sv (yAsg rfl) ?_
 refine sv (yAsg rfl) ?_
 refine nil ?_
 show Code.wp _ _ _ _ _
 refine seq ?_
 refine region ?_
 refine scall Tryz.call52 .nil c_Example ?_
 rintro _ w ⟨bc3, bf3, rfl, hT3, hE⟩; replace hS := hS.step hE; clear hE
 refine scall Tryz.call41 (.cons rfl (.cons rfl (.cons rfl .nil))) (c_Tube (t := exS) (fi := 3) (mi := 0) hT3 (hg.ext hS.ext) ⟨by decide, by decide⟩ ⟨by decide, by decide⟩) ?_
 rw [exs_tub]
 rintro _ w ⟨tv, is3, rfl, -, hM⟩; replace hS := hS.call1 hM; clear hM
 refine sv (yMove rfl) ?_
 refine sv (yExt rfl rfl) ?_
 refine sv (yExt rfl rfl) ?_
 refine sv (yAsg rfl) ?_
 refine sv (yAsg rfl) ?_
 refine nil ?_
 show Code.wp _ _ _ _ _
 refine seq ?_
 refine region ?_
 have hE0 := hS.ext
 have hp := hi1 w (fun it hi => hS.ok (packI is1) (by simp) it hi)
 have hlr := hi2 w (fun it hi => hS.ok (packI is2) (by simp) it hi)
 obtain ⟨bp, op, cs0, hap, -, hcp, hRp, -⟩ := sl_at (i := 0) (x := Ser.mk exS.frm [3500, 2700, 2800]) hp rfl
 have hRp0 := hRp
 obtain ⟨vp, rfl, -⟩ := hRp
 replace hS := St.start w
 refine sv (yMove rfl) ?_
 refine sv (yEql rfl rfl) ?_
 refine sv (yMove rfl) ?_
 refine ungo rfl rfl rfl ?_
 refine sv (yMove rfl) ?_
 refine ungo rfl rfl rfl ?_
 refine sv (yEql rfl rfl) ?_
 refine sv (yAnd rfl (fun hB => rfl) rfl) ?_
 refine sv (yMove rfl) ?_
 refine ungo rfl rfl rfl ?_
 refine sv (yMove rfl) ?_
 refine ungo rfl rfl rfl ?_
 refine sv (yEql rfl rfl) ?_
 refine sv (yAnd rfl (fun hB => rfl) rfl) ?_
 refine sv (yMove rfl) ?_
 refine ungo rfl rfl rfl ?_
 refine sv (yMove rfl) ?_
 refine ungo rfl rfl rfl ?_
 refine sv (yLen rfl Tryz.underlying45) ?_
 refine ungo rfl rfl rfl ?_
 refine sv (yEql rfl rfl) ?_
 refine sv (yAnd rfl (fun hB => rfl) rfl) ?_
 refine sv (yMove rfl) ?_
 refine ungo rfl rfl rfl ?_
 refine sv (yMove rfl) ?_
 refine ungo rfl rfl rfl ?_
 refine sv (yIxa rfl hap rfl Tryz.runUnderlying45 Tryz.sizeOf41 (by decide) (by decide)) ?_
 refine ungo rfl rfl rfl ?_
 refine sv (yLdA rfl Tryz.isAgg41 Tryz.sizeOf41 (hcp.ext hS.ext) rfl) ?_
 refine ungo rfl rfl rfl ?_
 refine sbslice hS Tryz.underlying39 Tryz.sizeOf3 rfl Tryz.zeroValue3 rfl (.cons rfl rfl (.cons rfl rfl (.cons rfl rfl .nil))) rfl ?_; clear hS; intro b41 w hS
 refine ungo rfl rfl rfl ?_
 refine sv (yBuild Tryz.zeroValue41 rfl pl41 (.cons rfl rfl (.cons rfl rfl .nil)) rfl) ?_
 refine ungo rfl rfl rfl ?_
 refine scall Tryz.call23 (.cons rfl (.cons rfl .nil)) (c_Same (ca := [.int .i64 exS.frm, vp]) (cb := [.int .i64 100, .slice (some ⟨b41, 0, none⟩) 3 3]) (RSer.stays _ _ _ _ hS.ext hRp0) (show RSer w _ ⟨100, [3500, 2700, 2800]⟩ from ⟨_, rfl, by decide, ints_sl (l := [3500, 2700, 2800]) (hS.at b41) (by decide) (by decide)⟩)) ?_
 rintro _ w ⟨rfl, hE⟩; replace hS := hS.step hE; clear hE
 refine sv (yAnd rfl (fun hB => rfl) rfl) ?_
 refine sv (yMove rfl) ?_
 refine ungo rfl rfl rfl ?_
 refine sv (yMove rfl) ?_
 refine ungo rfl rfl rfl ?_
 refine sbslice hS Tryz.underlying39 Tryz.sizeOf3 rfl Tryz.zeroValue3 rfl (.cons rfl rfl .nil) rfl ?_; clear hS; intro b47 w hS
 refine ungo rfl rfl rfl ?_
 refine scall Tryz.call22 (.cons rfl (.cons rfl .nil)) (c_Ints (hlr.ext RInt.stays hS.ext) (ints_sl (l := [0]) (hS.at b47) (by decide) (by decide))) ?_
 rintro _ w ⟨rfl, hE⟩; replace hS := hS.step hE; clear hE
 refine sv (yAnd rfl (fun hB => rfl) rfl) ?_
 refine sv (yAsg rfl) ?_
 refine nil ?_
 show Code.wp _ _ _ _ _
 refine wp_ret ?_
 exact retV (res1 rfl rfl) (hE0.trans hS.ext)
end Go.Proofs.YtgidbailiababaaGreatDoor

/- part S25 -/
namespace Bx
open Go Go.RowKit
section
variable {t : Sgt} {now : Int} {s : Ser}
theorem curR_2 : (curR t now).2 = askE t now := by unfold curR; split; rfl; next h => exact (Decidable.not_not.1 h).symm
theorem boxR_2 : (boxR t now).2 = askE t now := by unfold boxR; split; rfl; next h => exact (Decidable.not_not.1 h).symm
theorem curR_1 (h : askE t now = 0) : (curR t now).1 = curS t now := by unfold curR; rw [if_neg (fun k => k h)]
theorem boxR_1 (h : askE t now = 0) : (boxR t now).1 = boxS t now := by unfold boxR; rw [if_neg (fun k => k h)]
theorem sl_shape {α : Type} {w : World} {k : Nat} {R : World → List Value → α → Prop} {v : Value} {l : List α} (h : Sl w k R v l) : ∃ a n c, v = .slice a n c ∧ n = l.length ∧ n ≤ 9223372036854775807 := by
  obtain ⟨a, c, e, h1, h2, -⟩ := h
  exact ⟨a, _, c, e, rfl, by omega⟩
end
end Bx

/- part S26 -/
namespace Bx
open Go Go.RowKit
theorem cells_two {w : World} {b o : Nat} {a c : List Value} (h1 : Cells w b o a) (h2 : Cells w b (o + a.length) c) : Cells w b o (a ++ c) := fun j u hu => by
  by_cases hj : j < a.length
  · rw [List.getElem?_append_left hj] at hu
    exact h1 j u hu
  · rw [List.getElem?_append_right (by omega)] at hu
    have := h2 _ u hu
    rwa [show o + a.length + (j - a.length) = o + j by omega] at this
theorem rows_of {α : Type} {w : World} {k b o : Nat} {R : World → List Value → α → Prop} : ∀ (l : List α) (m : Nat), (∀ i (hi : i < l.length), ∃ cs, cs.length = k ∧ Cells w b (o + (m + i) * k) cs ∧ R w cs l[i]) → ∃ css, Bx.Rows w k R css l ∧ Cells w b (o + m * k) css.flatten
  | [], m, _ => ⟨[], trivial, fun j u hu => by simp at hu⟩
  | x :: l, m, h => by
    obtain ⟨cs, h1, h2, h3⟩ := h 0 (by simp)
    obtain ⟨css, h4, h5⟩ := rows_of l (m + 1) fun i hi => by
      obtain ⟨cs, k1, k2, k3⟩ := h (i + 1) (by simpa using hi)
      exact ⟨cs, k1, by rw [show m + 1 + i = m + (i + 1) by omega]; exact k2, k3⟩
    refine ⟨cs :: css, ⟨h1, h3, h4⟩, ?_⟩
    rw [List.flatten_cons]
    refine cells_two (by rw [show m = m + 0 from rfl]; exact h2) ?_
    rw [h1, show o + m * k + k = o + (m + 1) * k by rw [Nat.succ_mul]; omega]
    exact h5
theorem sl_css {α : Type} {w : World} {k n c : Nat} {a : Option Addr} {R : World → List Value → α → Prop} {l : List α} (h : Sl w k R (.slice a n c) l) : ∃ css, Bx.Rows w k R css l ∧ (0 < n → ∃ b o, a = some ⟨b, o, none⟩ ∧ Cells w b o css.flatten) := by
  obtain ⟨a', c', he, h1, h2, hel⟩ := h
  cases he
  by_cases h0 : l.length = 0
  · obtain rfl := List.eq_nil_of_length_eq_zero h0
    exact ⟨[], trivial, fun k => absurd k (Nat.lt_irrefl 0)⟩
  · obtain ⟨b, o, cs, ha, -⟩ := hel 0 (by omega)
    obtain ⟨css, k1, k2⟩ := rows_of (w := w) (k := k) (b := b) (o := o) (R := R) l 0 fun i hi => by
      obtain ⟨b2, o2, cs, ha2, q1, q2, q3⟩ := hel i hi
      rw [ha] at ha2
      cases ha2
      exact ⟨cs, q1, by rw [Nat.zero_add]; exact q2, q3⟩
    refine ⟨css, k1, fun _ => ⟨b, o, ha, ?_⟩⟩
    rwa [Nat.zero_mul, Nat.add_zero] at k2
theorem rows_app {α : Type} {w : World} {k : Nat} {R : World → List Value → α → Prop} : ∀ {css : List (List Value)} {l : List α} {css2 : List (List Value)} {l2 : List α}, Bx.Rows w k R css l → Bx.Rows w k R css2 l2 → Bx.Rows w k R (css ++ css2) (l ++ l2)
  | [], [], _, _, _, h => h
  | cs :: css, x :: l, _, _, ⟨h1, h2, h3⟩, h => ⟨h1, h2, rows_app h3 h⟩
section
variable {t : Sgt} {now : Int}
end
end Bx

/- part S31 -/
namespace Bx
open Go Go.RowKit
section
variable {k n : Int} {t : Sgt}
end
theorem table_one {w : World} {m cv : Value} {t : Table} (h : RTable w [m, cv] t) : cv.oneCell' = true := by
  obtain ⟨cv', e, -, hc⟩ := h
  obtain ⟨a, c, rfl, -⟩ := hc
  simp only [List.cons.injEq, and_true] at e
  rw [e.2]; rfl
theorem cells1 {m cv : Value} {rest : List Value} (h0 : m.oneCell' = true) (h : cv.oneCell' = true) (hr : rest.all (·.oneCell') = true) : (m :: cv :: rest).all (·.oneCell') = true := by
  rw [List.all_cons, List.all_cons, h0, h, hr]; rfl
def RSea (w : World) (cs : List Value) (x : Sea) : Prop := ∃ c1 v1 v2, cs = c1 ++ [v1, v2] ∧ RSgt w c1 x.task ∧ Sl w 1 RInt v1 x.surge ∧ Sl w 1 RU8 v2 x.parts
end Bx

/- part S32 -/
namespace Bx
open Go Go.RowKit
section
variable {x : Sea} {f : Fct} {m k : Nat} {now : Int}
end
theorem RSea.ext {w w' : World} {cs : List Value} {x : Sea} (h : RSea w cs x) (e : Ext w w') : RSea w' cs x := by
  obtain ⟨c1, v1, v2, rfl, h1, h2, h3⟩ := h
  exact ⟨c1, v1, v2, rfl, h1.ext e, h2.ext RInt.stays e, h3.ext RU8.stays e⟩
end Bx

/- part Sx27 -/
namespace Go.Proofs.YtgidbailiababaaGreatDoor
open Go Bx
set_option maxHeartbeats 4000000 in
/-- barrage/barragelaw02.same -/
theorem c_same {a b : Sgt} {ca cb : List Value} {now : Int} {w0 : World} (hg : Glb w0) (h1 : RSgt w0 ca a) (h2 : RSgt w0 cb b) (hI : I64 now) (he1 : askE a now = 0) (he2 : askE b now = 0) (hbx : boxS b now = boxS a now) (hfr : b.frm = a.frm) : CV Tryz.prog 28 #[.agg ca.toArray, .agg cb.toArray, .int .i64 now] w0 (.bool true) := by
 obtain ⟨cv, gv, tv, fv, rfl, hT, hG, hw64, hf64, hk64, hC, hF, hl64, hm64, hr64, hq64⟩ := id h1
 obtain ⟨ag, cg, rfl, hgcap, hgmx, hgel⟩ := id hG
 obtain ⟨ak, ck, rfl, hkcap, hkmx, hkel⟩ := id hC
 obtain ⟨ae, ce, rfl, hecap, hemx, heel⟩ := id hF
 obtain ⟨dv, gv2, tv2, fv2, rfl, kT, kG, kw64, kf64, kk64, kC, kF, kl64, km64, kr64, kq64⟩ := id h2
 obtain ⟨bg, dg, rfl, -⟩ := id kG
 obtain ⟨bk2, dk, rfl, -⟩ := id kC
 obtain ⟨be, de, rfl, -⟩ := id kF
 refine enter Tryz.func28 rfl Tryz.ntmps28 rfl ?_
 have hS := St.start w0
 refine seq ?_
 refine region ?_
 refine sbox hS rfl rfl ?_; clear hS; intro b3 w hS
 refine sbox hS rfl rfl ?_; clear hS; intro b4 w hS
 refine sv (yAsg rfl) ?_
 refine nil ?_
 show Code.wp _ _ _ _ _
 refine seq ?_
 refine region ?_
 refine sv (yLdBA rfl Tryz.isAgg29 Tryz.sizeOf29 (hS.at _) rfl rfl) ?_
 refine sv (yMove rfl) ?_
 refine scall Tryz.call20 (.cons rfl (.cons rfl .nil)) (c_Boxes (h1.ext hS.ext) (hg.ext hS.ext) hI) ?_
 rw [boxR_2]
 rintro _ w ⟨v1, i1, rfl, hi1, hM⟩; replace hS := hS.call1 hM; clear hM
 refine sv (yMove rfl) ?_
 refine sv (yExt rfl rfl) ?_
 refine sv (yExt rfl rfl) ?_
 refine sv (yAsg rfl) ?_
 refine sv (yAsg rfl) ?_
 refine nil ?_
 show Code.wp _ _ _ _ _
 refine seq ?_
 refine region ?_
 refine sv (yLdBA rfl Tryz.isAgg29 Tryz.sizeOf29 (hS.at _) rfl rfl) ?_
 refine sv (yMove rfl) ?_
 refine scall Tryz.call20 (.cons rfl (.cons rfl .nil)) (c_Boxes (h2.ext hS.ext) (hg.ext hS.ext) hI) ?_
 rw [boxR_2]
 rintro _ w ⟨v2, i2, rfl, hi2, hM⟩; replace hS := hS.call1 hM; clear hM
 refine sv (yMove rfl) ?_
 refine sv (yExt rfl rfl) ?_
 refine sv (yExt rfl rfl) ?_
 refine sv (yAsg rfl) ?_
 refine sv (yAsg rfl) ?_
 refine nil ?_
 show Code.wp _ _ _ _ _
 refine seq ?_
 refine seq ?_
 refine region ?_
 have hl1 := hi1 w (fun it hi => hS.ok (packI i1) (by simp) it hi)
 have hl2 := hi2 w (fun it hi => hS.ok (packI i2) (by simp) it hi)
 obtain ⟨ax, nx, cx, rfl, hnx, hmx⟩ := sl_shape hl1
 obtain ⟨ay, ny, cy, rfl, hny, hmy⟩ := sl_shape hl2
 have hE0 := hS.ext
 obtain ⟨w0, hwq⟩ : ∃ wq, wq = w := ⟨w, rfl⟩
 rw [← hwq] at hE0 hl1 hl2
 replace hS : StX [] w0 w [] := by rw [hwq]; exact St.start w
 clear hwq
 rw [boxR_1 he1] at hl1 hnx
 rw [boxR_1 he2, hbx, hfr] at hl2 hny
 rw [List.length_map] at hnx hny
 refine sv (yMove rfl) ?_
 refine sv (yNeq rfl rfl) ?_
 refine sv (yMove rfl) ?_
 refine sg rfl rfl rfl (fun g => (yMove rfl)) (fun v27 g27 => ?_)
 refine sg rfl rfl rfl (fun g => (yNeq (g27.1 g) rfl)) (fun v28 g28 => ?_)
 refine sv (yOr rfl rfl (fun hB => (g28.1 hB))) ?_
 refine sv (yMove rfl) ?_
 refine sg rfl rfl rfl (fun g => (yMove rfl)) (fun v31 g31 => ?_)
 refine sg rfl rfl rfl (fun g => (yLen (g31.1 g) Tryz.underlying35)) (fun v32 g32 => ?_)
 refine sg rfl rfl rfl (fun g => (yMove rfl)) (fun v33 g33 => ?_)
 refine sg rfl rfl rfl (fun g => (yLen (g33.1 g) Tryz.underlying35)) (fun v34 g34 => ?_)
 refine sg rfl rfl rfl (fun g => (yNeq (g32.1 g) (g34.1 g))) (fun v35 g35 => ?_)
 refine sv (yOr rfl rfl (fun hB => (g35.1 hB))) ?_
 refine nil ?_
 show Code.wp _ _ _ _ _
 refine cond rfl (fun c36 => ?_) (fun c36 => ?_)
 ·
  exfalso
  rw [he1, he2, decide_eq_false (show ¬ ((nx : Int) ≠ (ny : Int)) by omega)] at c36
  exact absurd c36 (by decide)
 ·
  refine skip ?_
  show Code.wp _ _ _ _ _
  refine seq ?_
  refine seq ?_
  refine region ?_
  refine sv (yAsg rfl) ?_
  refine nil ?_
  show Code.wp _ _ _ _ _
  refine block ?_
  refine loop (fun f w zz => ∃ (k : Nat), f 7 = .slice ax nx cx ∧ f 9 = .slice ay ny cy ∧ f 11 = .int .i64 (k : Int) ∧ StX [] w0 w [] ∧ (k ≤ nx) ∧ zz = nx - k) _ ⟨_, rfl, 0, rfl, rfl, rfl, (hS.sub (List.nil_sublist _)), (Nat.zero_le _), rfl⟩ ?_
  clear hS
  rintro f w _ ⟨k, h7, h9, h11, hS, hk, rfl⟩
  refine seq ?_
  refine seq ?_
  refine region ?_
  refine sv (yMove h11) ?_
  refine sv (yMove h7) ?_
  refine sv (yLen rfl Tryz.underlying35) ?_
  refine sv (yLss rfl rfl) ?_
  refine nil ?_
  show Code.wp _ _ _ _ _
  refine cond rfl (fun c40 => ?_) (fun c40 => ?_)
  ·
   simp only [BS, ne_eq] at c40
   have hkl : k < (boxS a now).length := by omega
   have hx : ((boxS a now).map (toBxs a.frm))[k]? = some (toBxs a.frm (boxAt (boxS a now) k)) := by rw [List.getElem?_map, boxAt_get hkl]; rfl
   obtain ⟨bp, op, csp, hap, hzp, hcp, hRp, -⟩ := sl_at hl1 hx
   obtain ⟨mp, lp, hp, rfl, hfp, hgp, hmp, hlop, hhip⟩ := hRp
   obtain ⟨amp, cmp, rfl, -⟩ := id hmp
   obtain ⟨alp, clp, rfl, -⟩ := id hlop
   obtain ⟨ahp, chp, rfl, -⟩ := id hhip
   obtain ⟨bq, oq, csq, haq, hzq, hcq, hRq, -⟩ := sl_at hl2 hx
   obtain ⟨mq, lq, hq, rfl, hfq, hgq, hmq, hloq, hhiq⟩ := hRq
   obtain ⟨amq, cmq, rfl, -⟩ := id hmq
   obtain ⟨alq, clq, rfl, -⟩ := id hloq
   obtain ⟨ahq, chq, rfl, -⟩ := id hhiq
   refine skip ?_
   show Code.wp _ _ _ _ _
   refine seq ?_
   refine block ?_
   refine seq ?_
   refine region_draw mixed (by kernel_rfl) hS ?_
   refine qv (fun w hS => (yMove h7)) ?_
   refine qv (fun w hS => (yMove h11)) ?_
   refine qv (fun w hS => (yIxa rfl hap rfl Tryz.runUnderlying35 Tryz.sizeOf43 (by omega) (by omega))) ?_
   refine qv (fun w hS => (fa43_0 rfl)) ?_
   refine qv (fun w hS => (yLd rfl Tryz.isAgg39 ((hcp.ext hS.ext).at (j := 0) rfl))) ?_
   refine qv (fun w hS => (yMove h9)) ?_
   refine qv (fun w hS => (yMove h11)) ?_
   refine qv (fun w hS => (yIxa rfl haq rfl Tryz.runUnderlying35 Tryz.sizeOf43 (by omega) (by omega))) ?_
   refine qv (fun w hS => (fa43_0 rfl)) ?_
   refine qv (fun w hS => (yLd rfl Tryz.isAgg39 ((hcq.ext hS.ext).at (j := 0) rfl))) ?_
   refine qcall Tryz.call22 (.cons rfl (.cons rfl .nil)) (fun w hS => (c_Ints (hmp.ext RInt.stays hS.ext) (hmq.ext RInt.stays hS.ext))) ?_
   refine qv (fun w hS => (yNot rfl)) ?_
   refine qv (fun w hS => (yMove rfl)) ?_
   refine qg rfl rfl rfl (fun g w hS => (yMove h7)) (fun v56 g56 => ?_)
   refine qg rfl rfl rfl (fun g w hS => (yMove h11)) (fun v57 g57 => ?_)
   refine qg rfl rfl rfl (fun g w hS => (yIxa (g56.1 g) hap (g57.1 g) Tryz.runUnderlying35 Tryz.sizeOf43 (by omega) (by omega))) (fun v58 g58 => ?_)
   refine qg rfl rfl rfl (fun g w hS => (fa43_1 (g58.1 g))) (fun v59 g59 => ?_)
   refine qg rfl rfl rfl (fun g w hS => (yLdA (g59.1 g) Tryz.isAgg41 Tryz.sizeOf41 (Cells.mid (xs := [.int .i64 (toBxs a.frm (boxAt (boxS a now) k)).low.frm, .slice alp (toBxs a.frm (boxAt (boxS a now) k)).low.vals.length clp]) (hcp.ext hS.ext) 1 rfl) rfl)) (fun v60 g60 => ?_)
   refine qg rfl rfl rfl (fun g w hS => (yMove h9)) (fun v61 g61 => ?_)
   refine qg rfl rfl rfl (fun g w hS => (yMove h11)) (fun v62 g62 => ?_)
   refine qg rfl rfl rfl (fun g w hS => (yIxa (g61.1 g) haq (g62.1 g) Tryz.runUnderlying35 Tryz.sizeOf43 (by omega) (by omega))) (fun v63 g63 => ?_)
   refine qg rfl rfl rfl (fun g w hS => (fa43_1 (g63.1 g))) (fun v64 g64 => ?_)
   refine qg rfl rfl rfl (fun g w hS => (yLdA (g64.1 g) Tryz.isAgg41 Tryz.sizeOf41 (Cells.mid (xs := [.int .i64 (toBxs a.frm (boxAt (boxS a now) k)).low.frm, .slice alq (toBxs a.frm (boxAt (boxS a now) k)).low.vals.length clq]) (hcq.ext hS.ext) 1 rfl) rfl)) (fun v65 g65 => ?_)
   refine qgc rfl rfl rfl Tryz.call23 (fun g => (.cons (g60.1 g) (.cons (g65.1 g) .nil))) (fun g w hS => (c_Same (show RSer w [.int .i64 (toBxs a.frm (boxAt (boxS a now) k)).low.frm, .slice alp (toBxs a.frm (boxAt (boxS a now) k)).low.vals.length clp] (toBxs a.frm (boxAt (boxS a now) k)).low from ⟨_, rfl, hfp, hlop.ext RInt.stays hS.ext⟩) (show RSer w [.int .i64 (toBxs a.frm (boxAt (boxS a now) k)).low.frm, .slice alq (toBxs a.frm (boxAt (boxS a now) k)).low.vals.length clq] (toBxs a.frm (boxAt (boxS a now) k)).low from ⟨_, rfl, hfq, hloq.ext RInt.stays hS.ext⟩))) (fun v66 g66 => ?_)
   refine qg rfl rfl rfl (fun g w hS => (yNot (g66.1 g))) (fun v67 g67 => ?_)
   refine qv (fun w hS => (yOr rfl rfl (fun hB => (g67.1 hB)))) ?_
   refine qv (fun w hS => (yMove rfl)) ?_
   refine qg rfl rfl rfl (fun g w hS => (yMove h7)) (fun v70 g70 => ?_)
   refine qg rfl rfl rfl (fun g w hS => (yMove h11)) (fun v71 g71 => ?_)
   refine qg rfl rfl rfl (fun g w hS => (yIxa (g70.1 g) hap (g71.1 g) Tryz.runUnderlying35 Tryz.sizeOf43 (by omega) (by omega))) (fun v72 g72 => ?_)
   refine qg rfl rfl rfl (fun g w hS => (fa43_2 (g72.1 g))) (fun v73 g73 => ?_)
   refine qg rfl rfl rfl (fun g w hS => (yLdA (g73.1 g) Tryz.isAgg41 Tryz.sizeOf41 (Cells.mid (xs := [.int .i64 (toBxs a.frm (boxAt (boxS a now) k)).high.frm, .slice ahp (toBxs a.frm (boxAt (boxS a now) k)).high.vals.length chp]) (hcp.ext hS.ext) 3 rfl) rfl)) (fun v74 g74 => ?_)
   refine qg rfl rfl rfl (fun g w hS => (yMove h9)) (fun v75 g75 => ?_)
   refine qg rfl rfl rfl (fun g w hS => (yMove h11)) (fun v76 g76 => ?_)
   refine qg rfl rfl rfl (fun g w hS => (yIxa (g75.1 g) haq (g76.1 g) Tryz.runUnderlying35 Tryz.sizeOf43 (by omega) (by omega))) (fun v77 g77 => ?_)
   refine qg rfl rfl rfl (fun g w hS => (fa43_2 (g77.1 g))) (fun v78 g78 => ?_)
   refine qg rfl rfl rfl (fun g w hS => (yLdA (g78.1 g) Tryz.isAgg41 Tryz.sizeOf41 (Cells.mid (xs := [.int .i64 (toBxs a.frm (boxAt (boxS a now) k)).high.frm, .slice ahq (toBxs a.frm (boxAt (boxS a now) k)).high.vals.length chq]) (hcq.ext hS.ext) 3 rfl) rfl)) (fun v79 g79 => ?_)
   refine qgc rfl rfl rfl Tryz.call23 (fun g => (.cons (g74.1 g) (.cons (g79.1 g) .nil))) (fun g w hS => (c_Same (show RSer w [.int .i64 (toBxs a.frm (boxAt (boxS a now) k)).high.frm, .slice ahp (toBxs a.frm (boxAt (boxS a now) k)).high.vals.length chp] (toBxs a.frm (boxAt (boxS a now) k)).high from ⟨_, rfl, hgp, hhip.ext RInt.stays hS.ext⟩) (show RSer w [.int .i64 (toBxs a.frm (boxAt (boxS a now) k)).high.frm, .slice ahq (toBxs a.frm (boxAt (boxS a now) k)).high.vals.length chq] (toBxs a.frm (boxAt (boxS a now) k)).high from ⟨_, rfl, hgq, hhiq.ext RInt.stays hS.ext⟩))) (fun v80 g80 => ?_)
   refine qg rfl rfl rfl (fun g w hS => (yNot (g80.1 g))) (fun v81 g81 => ?_)
   refine qv (fun w hS => (yOr rfl rfl (fun hB => (g81.1 hB)))) ?_
   clear hS; refine qnil (fun w hS => ?_)
   show Code.wp _ _ _ _ _
   refine cond rfl (fun c82 => ?_) (fun c82 => ?_)
   ·
    exfalso
    simp at c82
   ·
    refine skip ?_
    show Code.wp _ _ _ _ _
    refine region ?_
    refine sv (yMove h11) ?_
    refine sv (yAdd rfl rfl ⟨by omega, by omega⟩) ?_
    refine sv (yAsg rfl) ?_
    refine nil ?_
    exact ⟨_, _, rfl, ⟨k + 1, h7, h9, rfl, hS, (by omega), rfl⟩, by omega⟩
  ·
   simp only [BS, ne_eq] at c40
   refine exit ?_
   show Code.wp _ _ _ _ _
   refine seq ?_
   refine region ?_
   refine sv (yAsg rfl) ?_
   refine nil ?_
   show Code.wp _ _ _ _ _
   refine wp_ret ?_
   exact retV (res1 rfl rfl) (hE0.trans hS.ext)
end Go.Proofs.YtgidbailiababaaGreatDoor

/- part S33 -/
namespace Bx
open Go Go.RowKit
theorem fct_one {w : World} : ∀ {css : List (List Value)} {l : List Fct}, Bx.Rows w 4 RFct css l → css.flatten.all (·.oneCell') = true ∧ css.flatten.length = l.length * 4
  | [], [], _ => ⟨rfl, rfl⟩
  | cs :: css, s :: l, ⟨h1, ⟨v, hv, _, _, _, hs⟩, h3⟩ => by
    obtain ⟨a, c, rfl, -⟩ := hs
    subst hv
    obtain ⟨k1, k2⟩ := fct_one h3
    refine ⟨by rw [List.flatten_cons, List.all_append, k1]; rfl, ?_⟩
    rw [List.flatten_cons, List.length_append, k2]
    simp only [List.length_cons, List.length_nil]
    omega
theorem sl_reads {w : World} {e : TypeId} {v : Value} {n : Nat} {l : List Reading} (h : w.ownsRow 0 e 2 v n (l.flatMap readC)) (hn : l.length = n) (hok : ∀ r ∈ l, I64 r.tick ∧ I64 r.value) : Sl w 2 RRead v l := by
  subst hn
  exact row_sl readC_len h hok
theorem read_I {w : World} {v : Value} {l : List Reading} (h : Sl w 2 RRead v l) : ∀ r ∈ l, I64 r.tick ∧ I64 r.value := fun r hr => by
  obtain ⟨i, hi, rfl⟩ := List.getElem_of_mem hr
  obtain ⟨a, cap, -, -, -, hel⟩ := h
  obtain ⟨b, o, cs, -, -, -, -, h1⟩ := hel i hi
  exact h1
theorem known_mem {l : List Reading} {now : Int} {r : Reading} (h : r ∈ known l now) : r ∈ l := (List.mem_filter.1 h).1
theorem known_yes {l : List Reading} {now : Int} {j : Nat} {r : Reading} (h : l[j]? = some r) (hr : r.tick ≤ now) : known (l.take (j + 1)) now = known (l.take j) now ++ [r] := by
  unfold known
  rw [take_snoc h, List.filter_append]
  simp [hr]
theorem known_no {l : List Reading} {now : Int} {j : Nat} {r : Reading} (h : l[j]? = some r) (hr : ¬ r.tick ≤ now) : known (l.take (j + 1)) now = known (l.take j) now := by
  unfold known
  rw [take_snoc h, List.filter_append]
  simp [hr]
theorem RSgt.fcs {w : World} {t : Sgt} {cv gv tv fv fv' : Value} {l : List Fct} (h : RSgt w [.int .i64 t.table.mean, cv, gv, .int .i64 t.wrong, .int .i64 t.frm, .int .i64 t.ticks, tv, fv, .int .i64 t.least, .int .i64 t.most, .int .i64 t.rate, .int .i64 t.quorum] t) (hf : Sl w 4 RFct fv' l) :
    RSgt w [.int .i64 t.table.mean, cv, gv, .int .i64 t.wrong, .int .i64 t.frm, .int .i64 t.ticks, tv, fv', .int .i64 t.least, .int .i64 t.most, .int .i64 t.rate, .int .i64 t.quorum] { t with fcs := l } := by
  obtain ⟨a1, a2, a3, a4, a5, a6, a7, a8, a9, a10, a11⟩ := h.parts
  exact ⟨cv, gv, tv, fv', rfl, a1, a2, a3, a4, a5, a6, hf, a8, a9, a10, a11⟩
theorem RSgt.fg {w : World} {t : Sgt} {cv gv gv' tv fv fv' : Value} {l : List Fct} {gs : List Gauge} (h : RSgt w [.int .i64 t.table.mean, cv, gv, .int .i64 t.wrong, .int .i64 t.frm, .int .i64 t.ticks, tv, fv, .int .i64 t.least, .int .i64 t.most, .int .i64 t.rate, .int .i64 t.quorum] t) (hf : Sl w 4 RFct fv' l) (hg : Sl w 5 RGauge gv' gs) :
    RSgt w [.int .i64 t.table.mean, cv, gv', .int .i64 t.wrong, .int .i64 t.frm, .int .i64 t.ticks, tv, fv', .int .i64 t.least, .int .i64 t.most, .int .i64 t.rate, .int .i64 t.quorum] { t with fcs := l, gauges := gs } := by
  obtain ⟨a1, a2, a3, a4, a5, a6, a7, a8, a9, a10, a11⟩ := h.parts
  exact ⟨cv, gv', tv, fv', rfl, a1, hg, a3, a4, a5, a6, hf, a8, a9, a10, a11⟩
section
variable {t : Sgt} {f : Fct} {now : Int}
theorem more_issued (h : (checkS (moreT t f)).2.2 = 0) : Bd f.issued 0 200000 := by
  have := (sg_ok h).fcts (i := t.fcs.length) (by simp [moreT])
  have e : fct (moreT t f).fcs t.fcs.length = f := by simp [moreT, fct]
  rw [e] at this
  exact this.issued
theorem more_ask (h : (checkS (moreT t f)).2.2 = 0) (hn : Bd now 0 200000) : askE (moreT t f) now = 0 := askE_of (sg_ok h) hn
theorem keepF_yes {k : Nat} (h : 0 ≤ curOf t now k) : keepF t now (k + 1) = keepF t now k ++ [fct t.fcs (curOf t now k).toNat] := by rw [keepF_succ, if_pos h]
theorem keepF_no {k : Nat} (h : ¬ 0 ≤ curOf t now k) : keepF t now (k + 1) = keepF t now k := by rw [keepF_succ, if_neg h, List.append_nil]
end
theorem keep_rows {w : World} {css : List (List Value)} {l : List Gauge} {k : Nat} {g : Gauge} {now : Int} {dv rv : Value} (h : Bx.Rows w 5 RGauge css ((l.take k).map (keepG now))) (hg : l[k]? = some g) (hnm : g.name.size ≤ 9223372036854775807) (h1 : I64 g.err) (h2 : I64 g.rate) (hd : Sl w 3 RDatum dv g.datums) (hr : Sl w 2 RRead rv (known g.readings now)) :
    Bx.Rows w 5 RGauge (css ++ [[.string g.name, .int .i64 g.err, .int .i64 g.rate, dv, rv]]) ((l.take (k + 1)).map (keepG now)) := by
  rw [take_snoc hg, List.map_append]
  exact rows_app h ⟨rfl, ⟨dv, rv, rfl, hnm, h1, h2, hd, hr⟩, trivial⟩
end Bx

/- part Sx28 -/
namespace Go.Proofs.YtgidbailiababaaGreatDoor
open Go Bx
set_option maxHeartbeats 4000000 in
/-- barrage/barragelaw02.SurgeUnknown -/
theorem w_SurgeUnknown {t : Sgt} {cs : List Value} {cs2 : List Value} {fq : Fct} {now : Int} {w0 : World} (hg : Glb w0) (h : RSgt w0 cs t) (hI : I64 now) (hf : RFct w0 cs2 fq) : CV Tryz.prog 6 #[.agg cs.toArray, .int .i64 now, .agg cs2.toArray] w0 (.bool true) := by
 obtain ⟨cv, gv, tv, fv, rfl, hT, hG, hw64, hf64, hk64, hC, hF, hl64, hm64, hr64, hq64⟩ := id h
 obtain ⟨ag, cg, rfl, hgcap, hgmx, hgel⟩ := id hG
 obtain ⟨ak, ck, rfl, hkcap, hkmx, hkel⟩ := id hC
 obtain ⟨ae, ce, rfl, hecap, hemx, heel⟩ := id hF
 obtain ⟨mv, rfl, hf1, hf2, hf3, hMm⟩ := id hf
 obtain ⟨am, cm, rfl, hmcap, hmmx, -⟩ := id hMm
 have hg1 := hg
 refine enter Tryz.func6 rfl Tryz.ntmps6 rfl ?_
 have hS := St.start w0
 refine seq ?_
 refine region ?_
 refine sbox hS rfl rfl ?_; clear hS; intro b3 w hS
 refine sbox hS rfl rfl ?_; clear hS; intro b5 w hS
 refine sv (yAsg rfl) ?_
 refine nil ?_
 show Code.wp _ _ _ _ _
 refine seq ?_
 refine region ?_
 refine sv (yLdBA rfl Tryz.isAgg29 Tryz.sizeOf29 (hS.at _) rfl rfl) ?_
 refine sv (yMove rfl) ?_
 refine scall Tryz.call27 (.cons rfl (.cons rfl .nil)) (c_Current (h.ext hS.ext) (hg.ext hS.ext) hI) ?_
 rw [curR_2]
 rintro _ w ⟨cv9, i1, rfl, hi1, hM⟩; replace hS := hS.call1 hM; clear hM
 refine sv (yMove rfl) ?_
 refine sv (yExt rfl rfl) ?_
 refine sv (yExt rfl rfl) ?_
 refine sv (yAsg rfl) ?_
 refine sv (yAsg rfl) ?_
 refine nil ?_
 show Code.wp _ _ _ _ _
 refine seq ?_
 refine seq ?_
 refine region ?_
 have hc := hi1 w (fun it hi => hS.ok (packI i1) (by simp) it hi)
 obtain ⟨ac, nc, cc, rfl, hnc, hmc⟩ := sl_shape hc
 have hE0 := hS.ext
 have hb3 := hS.at b3
 have hb5 := hS.at b5
 replace hg1 := hg.ext hE0
 have ht1 := h.ext hE0
 have hMm1 := hMm.ext RRow.stays hE0
 obtain ⟨w0, hwq⟩ : ∃ wq, wq = w := ⟨w, rfl⟩
 rw [← hwq] at hE0 hb3 hb5 hg1 ht1 hc hMm1
 replace hS : StX [] w0 w [] := by rw [hwq]; exact St.start w
 clear hwq
 obtain ⟨hT1, hG1, -, -, -, hC1, hF1, -⟩ := RSgt.parts ht1
 refine sv (yMove rfl) ?_
 refine sv (yNeq rfl rfl) ?_
 refine sv (yMove rfl) ?_
 refine sg rfl rfl rfl (fun g => (fa61_0 rfl)) (fun v24 g24 => ?_)
 refine sg rfl rfl rfl (fun g => (yLdB (g24.1 g) Tryz.isAgg3 (hS.ext.get hb5) rfl)) (fun v25 g25 => ?_)
 refine sg rfl rfl rfl (fun g => (yLss (g25.1 g) rfl)) (fun v26 g26 => ?_)
 refine sv (yOr rfl rfl (fun hB => (g26.1 hB))) ?_
 refine sv (yMove rfl) ?_
 refine sg rfl rfl rfl (fun g => (fa61_0 rfl)) (fun v29 g29 => ?_)
 refine sg rfl rfl rfl (fun g => (yLdB (g29.1 g) Tryz.isAgg3 (hS.ext.get hb5) rfl)) (fun v30 g30 => ?_)
 refine sg rfl rfl rfl (fun g => (fa29_5 rfl)) (fun v31 g31 => ?_)
 refine sg rfl rfl rfl (fun g => (yLdB (g31.1 g) Tryz.isAgg26 (hS.ext.get hb3) rfl)) (fun v32 g32 => ?_)
 refine sg rfl rfl rfl (fun g => (yLen (g32.1 g) Tryz.underlying26)) (fun v33 g33 => ?_)
 refine sg rfl rfl rfl (fun g => (yGeq (g30.1 g) (g33.1 g))) (fun v34 g34 => ?_)
 refine sv (yOr rfl rfl (fun hB => (g34.1 hB))) ?_
 refine nil ?_
 show Code.wp _ _ _ _ _
 refine cond rfl (fun c35 => ?_) (fun c35 => ?_)
 ·
  refine seq ?_
  refine region ?_
  refine scall Tryz.call19 .nil (c_Awake (hg1.ext hS.ext)) ?_
  rintro _ w ⟨rfl, hE⟩; replace hS := hS.step hE; clear hE
  refine sv (yAsg rfl) ?_
  refine nil ?_
  show Code.wp _ _ _ _ _
  refine wp_ret (thenR ?_)
  exact retV (res1 rfl rfl) (hE0.trans hS.ext)
 ·
  simp only [Bool.or_eq_false_iff, decide_eq_false_iff_not, Decidable.not_not, ne_eq] at c35
  obtain ⟨⟨q1, q2⟩, q3⟩ := c35
  obtain ⟨hok, hnow⟩ := askE_ok q1
  rw [curR_1 q1] at hc hnc
  rw [curS_len] at hnc
  have hcr := hok.nc
  have hnf := hok.nf
  have hng := hok.ng
  have hkf := keepF_len (t := t) (now := now)
  obtain ⟨bz, oz, cz, haz, -, hcz, hRz, -⟩ := sl_at hC1 (ctr_get (l := t.ctrs) (i := fq.centre.toNat) (by omega))
  obtain ⟨rfl, hzn, hzl, -⟩ := hRz
  have hlate := (hok.ctrs (i := fq.centre.toNat) (by omega)).late
  refine skip ?_
  show Code.wp _ _ _ _ _
  refine seq ?_
  refine region ?_
  refine sv (yLdBA rfl Tryz.isAgg29 Tryz.sizeOf29 (hS.ext.get hb3) rfl rfl) ?_
  refine salloc hS Tryz.zeroValue29 rfl ?_; clear hS; intro b9 w hS
  refine sst (vs := [.int .i64 t.table.mean, cv, .slice ag t.gauges.length cg, .int .i64 t.wrong, .int .i64 t.frm, .int .i64 t.ticks, .slice ak t.ctrs.length ck, .slice ae t.fcs.length ce, .int .i64 t.least, .int .i64 t.most, .int .i64 t.rate, .int .i64 t.quorum]) hS rfl rfl Tryz.sizeOf29 rfl rfl rfl (cells1 rfl (table_one hT1) rfl) ?_; clear hS; intro w hS
  refine nil ?_
  show Code.wp _ _ _ _ _
  obtain ⟨css0, hr0, hc0⟩ := sl_css hF1
  obtain ⟨ho0, hl0⟩ := fct_one hr0
  refine seqJ (n := 175) (fun f w => ∃ (v9 : Value), f 1 = .int .i64 now ∧ f 3 = .pointer (some ⟨b3, 0, none⟩) ∧ f 5 = .pointer (some ⟨b5, 0, none⟩) ∧ f 7 = .slice ac nc cc ∧ f 9 = .pointer (some ⟨b9, 0, none⟩) ∧ StX [] w0 w [rowI (v9) 61 4 (t.fcs.length + 1) (css0.flatten ++ [.int .i64 fq.centre, .int .i64 fq.issued, .int .i64 fq.frm, .slice am fq.members.length cm]), blk b9 [.int .i64 t.table.mean, cv, .slice ag t.gauges.length cg, .int .i64 t.wrong, .int .i64 t.frm, .int .i64 t.ticks, .slice ak t.ctrs.length ck, v9, .int .i64 t.least, .int .i64 t.most, .int .i64 t.rate, .int .i64 t.quorum] 29] ∧ True) ?_ ?_
  ·
   refine region_mix (fun w => Ext w0 w) 9 mixed hS ?_
   clear hS; intro w hS
   refine f_step 1 (by kernel_rfl) rfl (fun c a a' w h => by obtain ⟨_, v, hv, _⟩ := h; cases hv) hS.ext (fun w hS => (fa29_6 rfl)) ?_
   refine f_step 2 (by kernel_rfl) rfl (fun c a a' w h => by obtain ⟨_, v, hv, _⟩ := h; cases hv) hS.ext (fun w hS => (yLdB rfl Tryz.isAgg27 (hS.get hb3) rfl)) ?_
   refine f_step 4 (by kernel_rfl) rfl (fun c a a' w h => by obtain ⟨_, v, hv, _⟩ := h; cases hv) hS.ext (fun w hS => (yLdBA rfl Tryz.isAgg61 Tryz.sizeOf61 (hS.get hb5) rfl rfl)) ?_
   show wpA _ _ _ _ _ _ _ _ _ _
   refine a_step (i := 0) (is := [5]) (by kernel_rfl) ⟨?_, ?_, trivial⟩
   ·
    refine ⟨_, rfl, ?_⟩
    refine sbslice0 hS Tryz.underlying27 Tryz.sizeOf61 ?_; clear hS; intro b38 w hS
    refine nil ?_
    refine ⟨fun _ => hS.ext, ?_⟩
    show wpA _ _ _ _ _ _ _ _ _ _
    show wpA _ _ _ _ _ _ _ _ _ _
    refine a_step (i := 3) (is := [5]) (by kernel_rfl) ⟨?_, ?_, trivial⟩
    ·
     refine ⟨_, rfl, ?_⟩
     refine sappS (bytes := 48) (size := 4) (news := css0.flatten) hS rfl rfl Tryz.underlying27 ti61 rfl rfl rfl rfl (by decide) Tryz.sizeOf61 (fun hh => by obtain ⟨bd, od, e1, e2⟩ := hc0 hh; exact ⟨bd, od, e1, e2.ext hS.ext⟩) hl0 ho0 (by omega) (by omega) ?_; clear hS; intro v41 w hS; rw [Nat.zero_add t.fcs.length, List.nil_append css0.flatten] at hS
     refine nil ?_
     refine ⟨fun _ => hS.ext, ?_⟩
     show wpA _ _ _ _ _ _ _ _ _ _
     show wpA _ _ _ _ _ _ _ _ _ _
     refine a_step (i := 5) (is := []) (by kernel_rfl) ⟨?_, trivial⟩
     refine ⟨_, rfl, ?_⟩
     refine sbslice hS Tryz.underlying27 Tryz.sizeOf61 rfl Tryz.zeroValue61 rfl (.cons rfl rfl .nil) rfl ?_; clear hS; intro b43 w hS
     refine nil ?_
     refine ⟨fun _ => hS.ext, ?_⟩
     show wpA _ _ _ _ _ _ _ _ _ _
     show wpA _ _ _ _ _ _ _ _ _ _
     refine a_step (i := 6) (is := []) (by kernel_rfl) ⟨?_, trivial⟩
     refine ⟨_, rfl, ?_⟩
     refine sapp (bytes := 48) (size := 4) (v := v41) (m := 1) hS rfl rfl Tryz.underlying27 ti61 rfl rfl rfl rfl (by decide) (blk_cells (hS.at _)) rfl rfl (by omega) (by omega) ?_; clear hS; intro v44 w hS
     refine nil ?_
     refine ⟨fun _ => hS.ext, ?_⟩
     show wpA _ _ _ _ _ _ _ _ _ _
     refine f_step 7 (by kernel_rfl) rfl (fun c a a' w h => by obtain ⟨_, v, hv, _⟩ := h; cases hv) hS.ext (fun w hS => (fa29_6 rfl)) ?_
     show wpA _ _ _ _ _ _ _ _ _ _
     refine a_step (i := 8) (is := []) (by kernel_rfl) ⟨?_, trivial⟩
     refine ⟨_, rfl, ?_⟩
     obtain ⟨a44, c44, rfl⟩ := row_shape (hS.row v44)
     refine sst hS rfl rfl Tryz.sizeOf27 rfl rfl rfl rfl ?_; clear hS; intro w hS
     refine nil ?_
     refine ⟨fun _ => hS.ext, ?_⟩
     show wpA _ _ _ _ _ _ _ _ _ _
     refine a_end (by kernel_rfl) ?_
     exact ⟨_, rfl, .slice a44 (t.fcs.length + 1) c44, rfl, rfl, rfl, rfl, rfl, (by first | exact hS.sub (.cons _ (.cons_cons _ (.cons_cons _ (List.nil_sublist _)))) | exact hS.sub (.cons_cons _ (.cons _ (.cons_cons _ (List.nil_sublist _))))), trivial⟩
    ·
     refine ⟨_, rfl, ?_⟩
     refine sbslice hS Tryz.underlying27 Tryz.sizeOf61 rfl Tryz.zeroValue61 rfl (.cons rfl rfl .nil) rfl ?_; clear hS; intro b43 w hS
     refine nil ?_
     refine ⟨fun _ => hS.ext, ?_⟩
     show wpA _ _ _ _ _ _ _ _ _ _
     show wpA _ _ _ _ _ _ _ _ _ _
     refine a_step (i := 3) (is := []) (by kernel_rfl) ⟨?_, trivial⟩
     refine ⟨_, rfl, ?_⟩
     refine sappS (bytes := 48) (size := 4) (news := css0.flatten) hS rfl rfl Tryz.underlying27 ti61 rfl rfl rfl rfl (by decide) Tryz.sizeOf61 (fun hh => by obtain ⟨bd, od, e1, e2⟩ := hc0 hh; exact ⟨bd, od, e1, e2.ext hS.ext⟩) hl0 ho0 (by omega) (by omega) ?_; clear hS; intro v41 w hS; rw [Nat.zero_add t.fcs.length, List.nil_append css0.flatten] at hS
     refine nil ?_
     refine ⟨fun _ => hS.ext, ?_⟩
     show wpA _ _ _ _ _ _ _ _ _ _
     show wpA _ _ _ _ _ _ _ _ _ _
     refine a_step (i := 6) (is := []) (by kernel_rfl) ⟨?_, trivial⟩
     refine ⟨_, rfl, ?_⟩
     refine sapp (bytes := 48) (size := 4) (v := v41) (m := 1) hS rfl rfl Tryz.underlying27 ti61 rfl rfl rfl rfl (by decide) (blk_cells (hS.at _)) rfl rfl (by omega) (by omega) ?_; clear hS; intro v44 w hS
     refine nil ?_
     refine ⟨fun _ => hS.ext, ?_⟩
     show wpA _ _ _ _ _ _ _ _ _ _
     refine f_step 7 (by kernel_rfl) rfl (fun c a a' w h => by obtain ⟨_, v, hv, _⟩ := h; cases hv) hS.ext (fun w hS => (fa29_6 rfl)) ?_
     show wpA _ _ _ _ _ _ _ _ _ _
     refine a_step (i := 8) (is := []) (by kernel_rfl) ⟨?_, trivial⟩
     refine ⟨_, rfl, ?_⟩
     obtain ⟨a44, c44, rfl⟩ := row_shape (hS.row v44)
     refine sst hS rfl rfl Tryz.sizeOf27 rfl rfl rfl rfl ?_; clear hS; intro w hS
     refine nil ?_
     refine ⟨fun _ => hS.ext, ?_⟩
     show wpA _ _ _ _ _ _ _ _ _ _
     refine a_end (by kernel_rfl) ?_
     exact ⟨_, rfl, .slice a44 (t.fcs.length + 1) c44, rfl, rfl, rfl, rfl, rfl, (by first | exact hS.sub (.cons _ (.cons_cons _ (.cons_cons _ (List.nil_sublist _)))) | exact hS.sub (.cons_cons _ (.cons _ (.cons_cons _ (List.nil_sublist _))))), trivial⟩
   ·
    refine ⟨_, rfl, ?_⟩
    refine sbslice hS Tryz.underlying27 Tryz.sizeOf61 rfl Tryz.zeroValue61 rfl (.cons rfl rfl .nil) rfl ?_; clear hS; intro b43 w hS
    refine nil ?_
    refine ⟨fun _ => hS.ext, ?_⟩
    show wpA _ _ _ _ _ _ _ _ _ _
    show wpA _ _ _ _ _ _ _ _ _ _
    refine a_step (i := 0) (is := []) (by kernel_rfl) ⟨?_, trivial⟩
    refine ⟨_, rfl, ?_⟩
    refine sbslice0 hS Tryz.underlying27 Tryz.sizeOf61 ?_; clear hS; intro b38 w hS
    refine nil ?_
    refine ⟨fun _ => hS.ext, ?_⟩
    show wpA _ _ _ _ _ _ _ _ _ _
    show wpA _ _ _ _ _ _ _ _ _ _
    refine a_step (i := 3) (is := []) (by kernel_rfl) ⟨?_, trivial⟩
    refine ⟨_, rfl, ?_⟩
    refine sappS (bytes := 48) (size := 4) (news := css0.flatten) hS rfl rfl Tryz.underlying27 ti61 rfl rfl rfl rfl (by decide) Tryz.sizeOf61 (fun hh => by obtain ⟨bd, od, e1, e2⟩ := hc0 hh; exact ⟨bd, od, e1, e2.ext hS.ext⟩) hl0 ho0 (by omega) (by omega) ?_; clear hS; intro v41 w hS; rw [Nat.zero_add t.fcs.length, List.nil_append css0.flatten] at hS
    refine nil ?_
    refine ⟨fun _ => hS.ext, ?_⟩
    show wpA _ _ _ _ _ _ _ _ _ _
    show wpA _ _ _ _ _ _ _ _ _ _
    refine a_step (i := 6) (is := []) (by kernel_rfl) ⟨?_, trivial⟩
    refine ⟨_, rfl, ?_⟩
    refine sapp (bytes := 48) (size := 4) (v := v41) (m := 1) hS rfl rfl Tryz.underlying27 ti61 rfl rfl rfl rfl (by decide) (blk_cells (hS.at _)) rfl rfl (by omega) (by omega) ?_; clear hS; intro v44 w hS
    refine nil ?_
    refine ⟨fun _ => hS.ext, ?_⟩
    show wpA _ _ _ _ _ _ _ _ _ _
    refine f_step 7 (by kernel_rfl) rfl (fun c a a' w h => by obtain ⟨_, v, hv, _⟩ := h; cases hv) hS.ext (fun w hS => (fa29_6 rfl)) ?_
    show wpA _ _ _ _ _ _ _ _ _ _
    refine a_step (i := 8) (is := []) (by kernel_rfl) ⟨?_, trivial⟩
    refine ⟨_, rfl, ?_⟩
    obtain ⟨a44, c44, rfl⟩ := row_shape (hS.row v44)
    refine sst hS rfl rfl Tryz.sizeOf27 rfl rfl rfl rfl ?_; clear hS; intro w hS
    refine nil ?_
    refine ⟨fun _ => hS.ext, ?_⟩
    show wpA _ _ _ _ _ _ _ _ _ _
    refine a_end (by kernel_rfl) ?_
    exact ⟨_, rfl, .slice a44 (t.fcs.length + 1) c44, rfl, rfl, rfl, rfl, rfl, (by first | exact hS.sub (.cons _ (.cons_cons _ (.cons_cons _ (List.nil_sublist _)))) | exact hS.sub (.cons_cons _ (.cons _ (.cons_cons _ (List.nil_sublist _))))), trivial⟩
  ·
   clear hS; rintro f w ⟨v9, h1, h3, h5, h7, h9, hS, -⟩
   obtain ⟨a44, c44, rfl⟩ := row_shape (hS.row v9)
   refine seq ?_
   refine region ?_
   refine sv (yLdBA h9 Tryz.isAgg29 Tryz.sizeOf29 (hS.at _) rfl rfl) ?_
   refine scall Tryz.call17 (.cons rfl .nil) (c_CheckS (t := moreT t fq) (RSgt.fcs (ht1.ext hS.ext) (sl_of_row (css := css0 ++ [[.int .i64 fq.centre, .int .i64 fq.issued, .int .i64 fq.frm, .slice am fq.members.length cm]]) (l := t.fcs ++ [fq]) (by rw [List.flatten_append]; exact hS.row (.slice a44 (t.fcs.length + 1) c44)) (rows_app (Rows.ext RFct.stays hS.ext hr0) ⟨rfl, ⟨_, rfl, hf1, hf2, hf3, hMm1.ext RRow.stays hS.ext⟩, trivial⟩) (by simp)))) ?_
   rintro _ w ⟨rfl, hE⟩; replace hS := hS.step hE; clear hE
   refine sv (yMove rfl) ?_
   refine sv (yExt rfl rfl) ?_
   refine sv (yExt rfl rfl) ?_
   refine sv (yExt rfl rfl) ?_
   refine sv (yAsg rfl) ?_
   refine nil ?_
   show Code.wp _ _ _ _ _
   refine seq ?_
   refine seq ?_
   refine region_draw mixed (by kernel_rfl) hS ?_
   refine qv (fun w hS => (yMove rfl)) ?_
   refine qv (fun w hS => (yEql rfl rfl)) ?_
   refine qv (fun w hS => (yMove rfl)) ?_
   refine qg rfl rfl rfl (fun g w hS => (fa61_1 h5)) (fun v55 g55 => ?_)
   refine qg rfl rfl rfl (fun g w hS => (yLdB (g55.1 g) Tryz.isAgg3 (hS.ext.get hb5) rfl)) (fun v56 g56 => ?_)
   refine qg rfl rfl rfl (fun g w hS => (fa29_5 h3)) (fun v57 g57 => ?_)
   refine qg rfl rfl rfl (fun g w hS => (yLdB (g57.1 g) Tryz.isAgg26 (hS.ext.get hb3) rfl)) (fun v58 g58 => ?_)
   refine qg rfl rfl rfl (fun g w hS => (fa61_0 h5)) (fun v59 g59 => ?_)
   refine qg rfl rfl rfl (fun g w hS => (yLdB (g59.1 g) Tryz.isAgg3 (hS.ext.get hb5) rfl)) (fun v60 g60 => ?_)
   refine qg rfl rfl rfl (fun g w hS => (yIxa (g58.1 g) haz (g60.1 g) Tryz.runUnderlying26 Tryz.sizeOf57 (by omega) (by omega))) (fun v61 g61 => ?_)
   refine qg rfl rfl rfl (fun g w hS => (fa57_1 (g61.1 g))) (fun v62 g62 => ?_)
   refine qg rfl rfl rfl (fun g w hS => (yLd (g62.1 g) Tryz.isAgg3 ((hcz.ext hS.ext).at (j := 1) rfl))) (fun v63 g63 => ?_)
   refine qg rfl rfl rfl (fun g w hS => (yAdd (g56.1 g) (g63.1 g) (by have := more_issued (of_decide_eq_true g); exact ⟨by omega, by omega⟩))) (fun v64 g64 => ?_)
   refine qg rfl rfl rfl (fun g w hS => (yMove h1)) (fun v65 g65 => ?_)
   refine qg rfl rfl rfl (fun g w hS => (yGtr (g64.1 g) (g65.1 g))) (fun v66 g66 => ?_)
   refine qv (fun w hS => (yAnd rfl (fun hB => (g66.1 hB)) rfl)) ?_
   refine qv (fun w hS => (yMove rfl)) ?_
   refine qg rfl rfl rfl (fun g w hS => (yLdBA h3 Tryz.isAgg29 Tryz.sizeOf29 (hS.ext.get hb3) rfl rfl)) (fun v69 g69 => ?_)
   refine qg rfl rfl rfl (fun g w hS => (yLdBA h9 Tryz.isAgg29 Tryz.sizeOf29 (hS.at _) rfl rfl)) (fun v70 g70 => ?_)
   refine qg rfl rfl rfl (fun g w hS => (yMove h1)) (fun v71 g71 => ?_)
   refine qgc rfl rfl rfl Tryz.call28 (fun g => (.cons (g69.1 g) (.cons (g70.1 g) (.cons (g71.1 g) .nil)))) (fun g w hS => (c_same (b := moreT t fq) (hg1.ext hS.ext) (ht1.ext hS.ext) (RSgt.fcs (ht1.ext hS.ext) (sl_of_row (css := css0 ++ [[.int .i64 fq.centre, .int .i64 fq.issued, .int .i64 fq.frm, .slice am fq.members.length cm]]) (l := t.fcs ++ [fq]) (by rw [List.flatten_append]; exact hS.row (.slice a44 (t.fcs.length + 1) c44)) (rows_app (Rows.ext RFct.stays hS.ext hr0) ⟨rfl, ⟨_, rfl, hf1, hf2, hf3, hMm1.ext RRow.stays hS.ext⟩, trivial⟩) (by simp))) hI q1 (more_ask (of_decide_eq_true (Bool.and_eq_true_iff.1 g).1) hnow) (more_box (by have := of_decide_eq_true (Bool.and_eq_true_iff.1 g).2; omega)) rfl)) (fun v72 g72 => ?_)
   refine qg rfl rfl rfl (fun g w hS => (yNot (g72.1 g))) (fun v73 g73 => ?_)
   refine qv (fun w hS => (yAnd rfl (fun hB => (g73.1 hB)) rfl)) ?_
   clear hS; refine qnil (fun w hS => ?_)
   show Code.wp _ _ _ _ _
   refine cond rfl (fun c74 => ?_) (fun c74 => ?_)
   ·
    exfalso
    simp at c74
   ·
    refine skip ?_
    show Code.wp _ _ _ _ _
    refine seq ?_
    refine cutK (fun f => f 1 = .int .i64 now ∧ f 3 = .pointer (some ⟨b3, 0, none⟩) ∧ f 7 = .slice ac nc cc ∧ True) ⟨h1, h3, h7, trivial⟩ ?_
    rintro f ⟨h1, h3, h7, -⟩
    refine region ?_
    refine sv (yLdBA h3 Tryz.isAgg29 Tryz.sizeOf29 (hS.ext.get hb3) rfl rfl) ?_
    refine salloc hS Tryz.zeroValue29 rfl ?_; clear hS; intro b10 w hS
    refine sst (vs := [.int .i64 t.table.mean, cv, .slice ag t.gauges.length cg, .int .i64 t.wrong, .int .i64 t.frm, .int .i64 t.ticks, .slice ak t.ctrs.length ck, .slice ae t.fcs.length ce, .int .i64 t.least, .int .i64 t.most, .int .i64 t.rate, .int .i64 t.quorum]) hS rfl rfl Tryz.sizeOf29 rfl rfl rfl (cells1 rfl (table_one hT1) rfl) ?_; clear hS; intro w hS
    refine nil ?_
    show Code.wp _ _ _ _ _
    refine seq ?_
    refine region ?_
    refine sv (fa29_6 rfl) ?_
    refine sst hS rfl rfl Tryz.sizeOf27 rfl rfl rfl rfl ?_; clear hS; intro w hS
    refine nil ?_
    show Code.wp _ _ _ _ _
    refine seq ?_
    refine seq ?_
    refine region ?_
    refine sv (yAsg rfl) ?_
    refine nil ?_
    show Code.wp _ _ _ _ _
    refine block ?_
    refine loop (fun f w zz => ∃ (k : Nat) (fv : Value) (css : List (List Value)), f 1 = .int .i64 now ∧ f 3 = .pointer (some ⟨b3, 0, none⟩) ∧ f 7 = .slice ac nc cc ∧ f 10 = .pointer (some ⟨b10, 0, none⟩) ∧ f 11 = .int .i64 (k : Int) ∧ StX [] w0 w [rowI (fv) 61 4 (keepF t now k).length css.flatten, blk b10 [.int .i64 t.table.mean, cv, .slice ag t.gauges.length cg, .int .i64 t.wrong, .int .i64 t.frm, .int .i64 t.ticks, .slice ak t.ctrs.length ck, fv, .int .i64 t.least, .int .i64 t.most, .int .i64 t.rate, .int .i64 t.quorum] 29] ∧ (k ≤ nc) ∧ (Bx.Rows w0 4 RFct css (keepF t now k)) ∧ zz = nc - k) _ ⟨_, rfl, 0, _, [], h1, h3, h7, rfl, rfl, ((hS.sub (.cons_cons _ (List.nil_sublist _))).nilrow 61 4), (Nat.zero_le _), (trivial), rfl⟩ ?_
    clear hS
    rintro f w _ ⟨k, fv, css, h1, h3, h7, h10, h11, hS, hk, hr, rfl⟩
    refine seq ?_
    refine seq ?_
    refine region ?_
    refine sv (yMove h11) ?_
    refine sv (yMove h7) ?_
    refine sv (yLen rfl Tryz.underlying39) ?_
    refine sv (yLss rfl rfl) ?_
    refine nil ?_
    show Code.wp _ _ _ _ _
    refine cond rfl (fun c80 => ?_) (fun c80 => ?_)
    ·
     simp only [BS, ne_eq] at c80
     have hkl : k < t.ctrs.length := by omega
     have hkf1 := hkf k
     obtain ⟨bq, oq, cq, haq, -, hcq, hRq, -⟩ := sl_at hc (curS_get t now hkl)
     obtain ⟨rfl, -⟩ := hRq
     have hbd : -1 ≤ curOf t now k ∧ curOf t now k < t.fcs.length := curK_bd t now k t.fcs.length
     refine skip ?_
     show Code.wp _ _ _ _ _
     refine seq ?_
     refine block ?_
     refine seq ?_
     refine region_draw mixed (by kernel_rfl) hS ?_
     refine qv (fun w hS => (yMove h7)) ?_
     refine qv (fun w hS => (yMove h11)) ?_
     refine qv (fun w hS => (yIxa rfl haq rfl Tryz.runUnderlying39 Tryz.sizeOf3 (by omega) (by omega))) ?_
     refine qv (fun w hS => (yLd rfl Tryz.isAgg3 (hcq.ext hS.ext).one)) ?_
     refine qv (fun w hS => (yGeq rfl rfl)) ?_
     refine qv (fun w hS => (yMove rfl)) ?_
     refine qg rfl rfl rfl (fun g w hS => (yMove h7)) (fun v89 g89 => ?_)
     refine qg rfl rfl rfl (fun g w hS => (yMove h11)) (fun v90 g90 => ?_)
     refine qg rfl rfl rfl (fun g w hS => (yIxa (g89.1 g) haq (g90.1 g) Tryz.runUnderlying39 Tryz.sizeOf3 (by omega) (by omega))) (fun v91 g91 => ?_)
     refine qg rfl rfl rfl (fun g w hS => (yLd (g91.1 g) Tryz.isAgg3 (hcq.ext hS.ext).one)) (fun v92 g92 => ?_)
     refine qg rfl rfl rfl (fun g w hS => (fa29_6 h3)) (fun v93 g93 => ?_)
     refine qg rfl rfl rfl (fun g w hS => (yLdB (g93.1 g) Tryz.isAgg27 (hS.ext.get hb3) rfl)) (fun v94 g94 => ?_)
     refine qg rfl rfl rfl (fun g w hS => (yLen (g94.1 g) Tryz.underlying27)) (fun v95 g95 => ?_)
     refine qg rfl rfl rfl (fun g w hS => (yLss (g92.1 g) (g95.1 g))) (fun v96 g96 => ?_)
     refine qv (fun w hS => (yAnd rfl (fun hB => (g96.1 hB)) rfl)) ?_
     clear hS; refine qnil (fun w hS => ?_)
     show Code.wp _ _ _ _ _
     refine cond rfl (fun c97 => ?_) (fun c97 => ?_)
     ·
      have hge : 0 ≤ curOf t now k := of_decide_eq_true (Bool.and_eq_true_iff.1 c97).1
      have hks := keepF_yes hge
      obtain ⟨hfl, hfo⟩ := cur_fct hok hge
      obtain ⟨bf, of, csf, haf, -, hcf, hRf, -⟩ := sl_at hF1 (fct_get hfl)
      obtain ⟨mvx, rfl, hx1, hx2, hx3, hMx⟩ := hRf
      obtain ⟨amx, cmx, rfl, -⟩ := id hMx
      refine region_mix (fun w => StX [] w0 w [blk b10 [.int .i64 t.table.mean, cv, .slice ag t.gauges.length cg, .int .i64 t.wrong, .int .i64 t.frm, .int .i64 t.ticks, .slice ak t.ctrs.length ck, fv, .int .i64 t.least, .int .i64 t.most, .int .i64 t.rate, .int .i64 t.quorum] 29]) 13 mixed hS ?_
      clear hS; intro w hS
      refine f_step 0 (by kernel_rfl) rfl (fun c a a' w h => by obtain ⟨_, v, hv, _⟩ := h; cases hv) (by refine hS.sub ?_; repeat first | exact List.Sublist.refl _ | exact List.nil_sublist _ | apply List.Sublist.cons_cons | apply List.Sublist.cons) (fun w hS => (fa29_6 h10)) ?_
      refine f_step 1 (by kernel_rfl) rfl (fun c a a' w h => by obtain ⟨_, v, hv, _⟩ := h; cases hv) (by refine hS.sub ?_; repeat first | exact List.Sublist.refl _ | exact List.nil_sublist _ | apply List.Sublist.cons_cons | apply List.Sublist.cons) (fun w hS => (yLdB rfl Tryz.isAgg27 (hS.at _) rfl)) ?_
      refine f_step 2 (by kernel_rfl) rfl (fun c a a' w h => by obtain ⟨_, v, hv, _⟩ := h; cases hv) (by refine hS.sub ?_; repeat first | exact List.Sublist.refl _ | exact List.nil_sublist _ | apply List.Sublist.cons_cons | apply List.Sublist.cons) (fun w hS => (fa29_6 h3)) ?_
      refine f_step 3 (by kernel_rfl) rfl (fun c a a' w h => by obtain ⟨_, v, hv, _⟩ := h; cases hv) (by refine hS.sub ?_; repeat first | exact List.Sublist.refl _ | exact List.nil_sublist _ | apply List.Sublist.cons_cons | apply List.Sublist.cons) (fun w hS => (yLdB rfl Tryz.isAgg27 (hS.ext.get hb3) rfl)) ?_
      refine f_step 4 (by kernel_rfl) rfl (fun c a a' w h => by obtain ⟨_, v, hv, _⟩ := h; cases hv) (by refine hS.sub ?_; repeat first | exact List.Sublist.refl _ | exact List.nil_sublist _ | apply List.Sublist.cons_cons | apply List.Sublist.cons) (fun w hS => (yMove h7)) ?_
      refine f_step 5 (by kernel_rfl) rfl (fun c a a' w h => by obtain ⟨_, v, hv, _⟩ := h; cases hv) (by refine hS.sub ?_; repeat first | exact List.Sublist.refl _ | exact List.nil_sublist _ | apply List.Sublist.cons_cons | apply List.Sublist.cons) (fun w hS => (yMove h11)) ?_
      refine f_step 6 (by kernel_rfl) rfl (fun c a a' w h => by obtain ⟨_, v, hv, _⟩ := h; cases hv) (by refine hS.sub ?_; repeat first | exact List.Sublist.refl _ | exact List.nil_sublist _ | apply List.Sublist.cons_cons | apply List.Sublist.cons) (fun w hS => (yIxa rfl haq rfl Tryz.runUnderlying39 Tryz.sizeOf3 (by omega) (by omega))) ?_
      refine f_step 7 (by kernel_rfl) rfl (fun c a a' w h => by obtain ⟨_, v, hv, _⟩ := h; cases hv) (by refine hS.sub ?_; repeat first | exact List.Sublist.refl _ | exact List.nil_sublist _ | apply List.Sublist.cons_cons | apply List.Sublist.cons) (fun w hS => (yLd rfl Tryz.isAgg3 (hcq.ext hS.ext).one)) ?_
      refine f_step 8 (by kernel_rfl) rfl (fun c a a' w h => by obtain ⟨_, v, hv, _⟩ := h; cases hv) (by refine hS.sub ?_; repeat first | exact List.Sublist.refl _ | exact List.nil_sublist _ | apply List.Sublist.cons_cons | apply List.Sublist.cons) (fun w hS => (yIxa rfl haf rfl Tryz.runUnderlying27 Tryz.sizeOf61 (by omega) (by omega))) ?_
      refine f_step 9 (by kernel_rfl) rfl (fun c a a' w h => by obtain ⟨_, v, hv, _⟩ := h; cases hv) (by refine hS.sub ?_; repeat first | exact List.Sublist.refl _ | exact List.nil_sublist _ | apply List.Sublist.cons_cons | apply List.Sublist.cons) (fun w hS => (yLdA rfl Tryz.isAgg61 Tryz.sizeOf61 (hcf.ext hS.ext) rfl)) ?_
      show wpA _ _ _ _ _ _ _ _ _ _
      refine a_step (i := 10) (is := []) (by kernel_rfl) ⟨?_, trivial⟩
      refine ⟨_, rfl, ?_⟩
      refine sbslice hS Tryz.underlying27 Tryz.sizeOf61 rfl Tryz.zeroValue61 rfl (.cons rfl rfl .nil) rfl ?_; clear hS; intro b108 w hS
      refine nil ?_
      refine ⟨fun _ => (by refine hS.sub ?_; repeat first | exact List.Sublist.refl _ | exact List.nil_sublist _ | apply List.Sublist.cons_cons | apply List.Sublist.cons), ?_⟩
      show wpA _ _ _ _ _ _ _ _ _ _
      show wpA _ _ _ _ _ _ _ _ _ _
      refine a_step (i := 11) (is := []) (by kernel_rfl) ⟨?_, trivial⟩
      refine ⟨_, rfl, ?_⟩
      refine sapp (bytes := 48) (size := 4) (v := fv) (m := 1) hS rfl rfl Tryz.underlying27 ti61 rfl rfl rfl rfl (by decide) (blk_cells (hS.at _)) rfl rfl (by omega) (by omega) ?_; clear hS; intro v109 w hS
      refine nil ?_
      refine ⟨fun _ => (by refine hS.sub ?_; repeat first | exact List.Sublist.refl _ | exact List.nil_sublist _ | apply List.Sublist.cons_cons | apply List.Sublist.cons), ?_⟩
      show wpA _ _ _ _ _ _ _ _ _ _
      refine f_step 12 (by kernel_rfl) rfl (fun c a a' w h => by obtain ⟨_, v, hv, _⟩ := h; cases hv) (by refine hS.sub ?_; repeat first | exact List.Sublist.refl _ | exact List.nil_sublist _ | apply List.Sublist.cons_cons | apply List.Sublist.cons) (fun w hS => (fa29_6 h10)) ?_
      show wpA _ _ _ _ _ _ _ _ _ _
      refine a_step (i := 13) (is := []) (by kernel_rfl) ⟨?_, trivial⟩
      refine ⟨_, rfl, ?_⟩
      obtain ⟨a109, c109, rfl⟩ := row_shape (hS.row v109)
      refine sst hS rfl rfl Tryz.sizeOf27 rfl rfl rfl rfl ?_; clear hS; intro w hS
      refine nil ?_
      refine ⟨fun h => absurd h (by decide), ?_⟩
      show wpA _ _ _ _ _ _ _ _ _ _
      refine a_end (by kernel_rfl) ?_
      show Code.wp _ _ _ _ _
      refine region ?_
      refine sv (yMove h11) ?_
      refine sv (yAdd rfl rfl ⟨by omega, by omega⟩) ?_
      refine sv (yAsg rfl) ?_
      refine nil ?_
      exact ⟨_, _, rfl, ⟨k + 1, _, css ++ [[.int .i64 (fct t.fcs (curOf t now k).toNat).centre, .int .i64 (fct t.fcs (curOf t now k).toNat).issued, .int .i64 (fct t.fcs (curOf t now k).toNat).frm, .slice amx (fct t.fcs (curOf t now k).toNat).members.length cmx]], h1, h3, h7, h10, rfl, (by rw [hks, List.length_append, List.flatten_append]; refine hS.sub ?_; repeat first | exact List.Sublist.refl _ | exact List.nil_sublist _ | apply List.Sublist.cons_cons | apply List.Sublist.cons), (by omega), (by rw [hks]; exact rows_app hr ⟨rfl, ⟨_, rfl, hx1, hx2, hx3, hMx⟩, trivial⟩), rfl⟩, by omega⟩
     ·
      have hks := keepF_no (t := t) (now := now) (k := k) (fun hh => by rw [decide_eq_true hh, decide_eq_true (show curOf t now k < (t.fcs.length : Int) by omega)] at c97; exact absurd c97 (by decide))
      refine skip ?_
      show Code.wp _ _ _ _ _
      refine region ?_
      refine sv (yMove h11) ?_
      refine sv (yAdd rfl rfl ⟨by omega, by omega⟩) ?_
      refine sv (yAsg rfl) ?_
      refine nil ?_
      exact ⟨_, _, rfl, ⟨k + 1, _, css, h1, h3, h7, h10, rfl, (by rw [hks]; exact hS), (by omega), (by rw [hks]; exact hr), rfl⟩, by omega⟩
    ·
     simp only [BS, ne_eq] at c80
     have hkk : k = nc := by omega
     rw [hkk, hnc] at hS hr
     obtain ⟨afv, cfv, rfl⟩ := row_shape (hS.row fv)
     refine exit ?_
     show Code.wp _ _ _ _ _
     refine seq ?_
     refine cutK (fun f => f 1 = .int .i64 now ∧ f 3 = .pointer (some ⟨b3, 0, none⟩) ∧ f 10 = .pointer (some ⟨b10, 0, none⟩) ∧ True) ⟨h1, h3, h10, trivial⟩ ?_
     rintro f ⟨h1, h3, h10, -⟩
     refine region ?_
     refine sv (fa29_1 h10) ?_
     refine sst hS rfl rfl Tryz.sizeOf25 rfl rfl rfl rfl ?_; clear hS; intro w hS
     refine nil ?_
     show Code.wp _ _ _ _ _
     refine seq ?_
     refine seq ?_
     refine region ?_
     refine sv (yAsg rfl) ?_
     refine nil ?_
     show Code.wp _ _ _ _ _
     refine block ?_
     refine loop (fun f w zz => ∃ (k : Nat) (gv9 : Value) (its : List Bx.Item) (gss : List (List Value)), f 1 = .int .i64 now ∧ f 3 = .pointer (some ⟨b3, 0, none⟩) ∧ f 10 = .pointer (some ⟨b10, 0, none⟩) ∧ f 12 = .int .i64 (k : Int) ∧ StX [] w0 w [rowI (gv9) 68 5 k gss.flatten, packI its, rowI (.slice afv (keepF t now t.ctrs.length).length cfv) 61 4 (keepF t now t.ctrs.length).length css.flatten, blk b10 [.int .i64 t.table.mean, cv, gv9, .int .i64 t.wrong, .int .i64 t.frm, .int .i64 t.ticks, .slice ak t.ctrs.length ck, .slice afv (keepF t now t.ctrs.length).length cfv, .int .i64 t.least, .int .i64 t.most, .int .i64 t.rate, .int .i64 t.quorum] 29] ∧ (k ≤ t.gauges.length) ∧ (∀ w2 : World, Ext w0 w2 → (∀ it ∈ its, it.ok w2) → Bx.Rows w2 5 RGauge gss ((t.gauges.take k).map (keepG now))) ∧ zz = t.gauges.length - k) _ ⟨_, rfl, 0, _, [], [], h1, h3, h10, rfl, ((StX.pack (M := []) hS).nilrow 68 5), (Nat.zero_le _), (fun _ _ _ => trivial), rfl⟩ ?_
     clear hS
     rintro f w _ ⟨k, gv9, its, gss, h1, h3, h10, h12, hS, hk2, hr2, rfl⟩
     refine seq ?_
     refine seq ?_
     refine region ?_
     refine sv (yMove h12) ?_
     refine sv (fa29_1 h3) ?_
     refine sv (yLdB rfl Tryz.isAgg25 (hS.ext.get hb3) rfl) ?_
     refine sv (yLen rfl Tryz.underlying25) ?_
     refine sv (yLss rfl rfl) ?_
     refine nil ?_
     show Code.wp _ _ _ _ _
     refine cond rfl (fun c116 => ?_) (fun c116 => ?_)
     ·
      simp only [BS, ne_eq] at c116
      have hkl2 : k < t.gauges.length := by omega
      obtain ⟨bg, og, csg, hag, -, hcg, hRg, -⟩ := sl_at hG1 (gau_get hkl2)
      obtain ⟨dv, rv, rfl, hgn, hge1, hge2, hsd, hsr⟩ := hRg
      obtain ⟨adx, cdx, rfl, -⟩ := id hsd
      obtain ⟨arx, crx, rfl, hrcap, hrmx, -⟩ := id hsr
      have hgl : (gau t.gauges k).readings.length ≤ 60 := by exact (gaugeOk_of (gE_ok (hok.gau k hkl2)).1).rlen
      refine skip ?_
      show Code.wp _ _ _ _ _
      refine seq ?_
      refine block ?_
      refine seq ?_
      refine region ?_
      refine sv (fa29_1 h3) ?_
      refine sv (yLdB rfl Tryz.isAgg25 (hS.ext.get hb3) rfl) ?_
      refine sv (yMove h12) ?_
      refine sv (yIxa rfl hag rfl Tryz.runUnderlying25 Tryz.sizeOf68 (by omega) (by omega)) ?_
      refine sv (yLdA rfl Tryz.isAgg68 Tryz.sizeOf68 (hcg.ext hS.ext) rfl) ?_
      refine salloc hS Tryz.zeroValue68 rfl ?_; clear hS; intro b13 w hS
      refine sst hS rfl rfl Tryz.sizeOf68 rfl rfl rfl rfl ?_; clear hS; intro w hS
      refine nil ?_
      show Code.wp _ _ _ _ _
      refine seq ?_
      refine region ?_
      refine sv (fa68_4 rfl) ?_
      refine sst hS rfl rfl Tryz.sizeOf66 rfl rfl rfl rfl ?_; clear hS; intro w hS
      refine nil ?_
      show Code.wp _ _ _ _ _
      refine seq ?_
      refine seq ?_
      refine region ?_
      refine sv (yAsg rfl) ?_
      refine nil ?_
      show Code.wp _ _ _ _ _
      refine block ?_
      refine loop (fun f w zz => ∃ (j : Nat) (rv9 : Value), f 1 = .int .i64 now ∧ f 3 = .pointer (some ⟨b3, 0, none⟩) ∧ f 10 = .pointer (some ⟨b10, 0, none⟩) ∧ f 12 = .int .i64 (k : Int) ∧ f 13 = .pointer (some ⟨b13, 0, none⟩) ∧ f 14 = .int .i64 (j : Int) ∧ StX [] w0 w [rowI (rv9) 70 2 (known ((gau t.gauges k).readings.take j) now).length ((known ((gau t.gauges k).readings.take j) now).flatMap readC), blk b13 [.string (gau t.gauges k).name, .int .i64 (gau t.gauges k).err, .int .i64 (gau t.gauges k).rate, .slice adx (gau t.gauges k).datums.length cdx, rv9] 68, rowI (gv9) 68 5 k gss.flatten, packI its, rowI (.slice afv (keepF t now t.ctrs.length).length cfv) 61 4 (keepF t now t.ctrs.length).length css.flatten, blk b10 [.int .i64 t.table.mean, cv, gv9, .int .i64 t.wrong, .int .i64 t.frm, .int .i64 t.ticks, .slice ak t.ctrs.length ck, .slice afv (keepF t now t.ctrs.length).length cfv, .int .i64 t.least, .int .i64 t.most, .int .i64 t.rate, .int .i64 t.quorum] 29] ∧ (j ≤ (gau t.gauges k).readings.length) ∧ zz = (gau t.gauges k).readings.length - j) _ ⟨_, rfl, 0, _, h1, h3, h10, h12, rfl, rfl, (hS.nilrow 70 2), (Nat.zero_le _), rfl⟩ ?_
      clear hS
      rintro f w _ ⟨j, rv9, h1, h3, h10, h12, h13, h14, hS, hj, rfl⟩
      refine seq ?_
      refine seq ?_
      refine region ?_
      refine sv (yMove h14) ?_
      refine sv (fa29_1 h3) ?_
      refine sv (yLdB rfl Tryz.isAgg25 (hS.ext.get hb3) rfl) ?_
      refine sv (yMove h12) ?_
      refine sv (yIxa rfl hag rfl Tryz.runUnderlying25 Tryz.sizeOf68 (by omega) (by omega)) ?_
      refine sv (fa68_4 rfl) ?_
      refine sv (yLd rfl Tryz.isAgg66 ((hcg.ext hS.ext).at (j := 4) rfl)) ?_
      refine sv (yLen rfl Tryz.underlying66) ?_
      refine sv (yLss rfl rfl) ?_
      refine nil ?_
      show Code.wp _ _ _ _ _
      refine cond rfl (fun c133 => ?_) (fun c133 => ?_)
      ·
       simp only [BS, ne_eq] at c133
       have hjl : j < (gau t.gauges k).readings.length := by omega
       obtain ⟨r, hrj⟩ : ∃ r, (gau t.gauges k).readings[j]? = some r := ⟨_, List.getElem?_eq_getElem hjl⟩
       obtain ⟨br, orr, crr, har, -, hcr2, hRr, -⟩ := sl_at hsr hrj
       obtain ⟨rfl, hr64, hv64⟩ := hRr
       have hkl9 : (known ((gau t.gauges k).readings.take j) now).length ≤ j := by have h8 : (known ((gau t.gauges k).readings.take j) now).length ≤ ((gau t.gauges k).readings.take j).length := List.length_filter_le ..; rw [List.length_take] at h8; omega
       refine skip ?_
       show Code.wp _ _ _ _ _
       refine seq ?_
       refine block ?_
       refine seq ?_
       refine region ?_
       refine sv (fa29_1 h3) ?_
       refine sv (yLdB rfl Tryz.isAgg25 (hS.ext.get hb3) rfl) ?_
       refine sv (yMove h12) ?_
       refine sv (yIxa rfl hag rfl Tryz.runUnderlying25 Tryz.sizeOf68 (by omega) (by omega)) ?_
       refine sv (fa68_4 rfl) ?_
       refine sv (yLd rfl Tryz.isAgg66 ((hcg.ext hS.ext).at (j := 4) rfl)) ?_
       refine sv (yMove h14) ?_
       refine sv (yIxa rfl har rfl Tryz.runUnderlying66 Tryz.sizeOf70 (by omega) (by omega)) ?_
       refine sv (fa70_0 rfl) ?_
       refine sv (yLd rfl Tryz.isAgg3 ((hcr2.ext hS.ext).at (j := 0) rfl)) ?_
       refine sv (yMove h1) ?_
       refine sv (yLeq rfl rfl) ?_
       refine nil ?_
       show Code.wp _ _ _ _ _
       refine cond rfl (fun c147 => ?_) (fun c147 => ?_)
       ·
        simp only [BS, ne_eq] at c147
        have hkn := known_yes hrj c147
        refine region_mix (fun w => StX [] w0 w [blk b13 [.string (gau t.gauges k).name, .int .i64 (gau t.gauges k).err, .int .i64 (gau t.gauges k).rate, .slice adx (gau t.gauges k).datums.length cdx, rv9] 68]) 14 mixed hS ?_
        clear hS; intro w hS
        refine f_step 0 (by kernel_rfl) rfl (fun c a a' w h => by obtain ⟨_, v, hv, _⟩ := h; cases hv) (by refine hS.sub ?_; repeat first | exact List.Sublist.refl _ | exact List.nil_sublist _ | apply List.Sublist.cons_cons | apply List.Sublist.cons) (fun w hS => (fa68_4 h13)) ?_
        refine f_step 1 (by kernel_rfl) rfl (fun c a a' w h => by obtain ⟨_, v, hv, _⟩ := h; cases hv) (by refine hS.sub ?_; repeat first | exact List.Sublist.refl _ | exact List.nil_sublist _ | apply List.Sublist.cons_cons | apply List.Sublist.cons) (fun w hS => (yLdB rfl Tryz.isAgg66 (hS.at _) rfl)) ?_
        refine f_step 2 (by kernel_rfl) rfl (fun c a a' w h => by obtain ⟨_, v, hv, _⟩ := h; cases hv) (by refine hS.sub ?_; repeat first | exact List.Sublist.refl _ | exact List.nil_sublist _ | apply List.Sublist.cons_cons | apply List.Sublist.cons) (fun w hS => (fa29_1 h3)) ?_
        refine f_step 3 (by kernel_rfl) rfl (fun c a a' w h => by obtain ⟨_, v, hv, _⟩ := h; cases hv) (by refine hS.sub ?_; repeat first | exact List.Sublist.refl _ | exact List.nil_sublist _ | apply List.Sublist.cons_cons | apply List.Sublist.cons) (fun w hS => (yLdB rfl Tryz.isAgg25 (hS.ext.get hb3) rfl)) ?_
        refine f_step 4 (by kernel_rfl) rfl (fun c a a' w h => by obtain ⟨_, v, hv, _⟩ := h; cases hv) (by refine hS.sub ?_; repeat first | exact List.Sublist.refl _ | exact List.nil_sublist _ | apply List.Sublist.cons_cons | apply List.Sublist.cons) (fun w hS => (yMove h12)) ?_
        refine f_step 5 (by kernel_rfl) rfl (fun c a a' w h => by obtain ⟨_, v, hv, _⟩ := h; cases hv) (by refine hS.sub ?_; repeat first | exact List.Sublist.refl _ | exact List.nil_sublist _ | apply List.Sublist.cons_cons | apply List.Sublist.cons) (fun w hS => (yIxa rfl hag rfl Tryz.runUnderlying25 Tryz.sizeOf68 (by omega) (by omega))) ?_
        refine f_step 6 (by kernel_rfl) rfl (fun c a a' w h => by obtain ⟨_, v, hv, _⟩ := h; cases hv) (by refine hS.sub ?_; repeat first | exact List.Sublist.refl _ | exact List.nil_sublist _ | apply List.Sublist.cons_cons | apply List.Sublist.cons) (fun w hS => (fa68_4 rfl)) ?_
        refine f_step 7 (by kernel_rfl) rfl (fun c a a' w h => by obtain ⟨_, v, hv, _⟩ := h; cases hv) (by refine hS.sub ?_; repeat first | exact List.Sublist.refl _ | exact List.nil_sublist _ | apply List.Sublist.cons_cons | apply List.Sublist.cons) (fun w hS => (yLd rfl Tryz.isAgg66 ((hcg.ext hS.ext).at (j := 4) rfl))) ?_
        refine f_step 8 (by kernel_rfl) rfl (fun c a a' w h => by obtain ⟨_, v, hv, _⟩ := h; cases hv) (by refine hS.sub ?_; repeat first | exact List.Sublist.refl _ | exact List.nil_sublist _ | apply List.Sublist.cons_cons | apply List.Sublist.cons) (fun w hS => (yMove h14)) ?_
        refine f_step 9 (by kernel_rfl) rfl (fun c a a' w h => by obtain ⟨_, v, hv, _⟩ := h; cases hv) (by refine hS.sub ?_; repeat first | exact List.Sublist.refl _ | exact List.nil_sublist _ | apply List.Sublist.cons_cons | apply List.Sublist.cons) (fun w hS => (yIxa rfl har rfl Tryz.runUnderlying66 Tryz.sizeOf70 (by omega) (by omega))) ?_
        refine f_step 10 (by kernel_rfl) rfl (fun c a a' w h => by obtain ⟨_, v, hv, _⟩ := h; cases hv) (by refine hS.sub ?_; repeat first | exact List.Sublist.refl _ | exact List.nil_sublist _ | apply List.Sublist.cons_cons | apply List.Sublist.cons) (fun w hS => (yLdA rfl Tryz.isAgg70 Tryz.sizeOf70 (hcr2.ext hS.ext) rfl)) ?_
        show wpA _ _ _ _ _ _ _ _ _ _
        refine a_step (i := 11) (is := []) (by kernel_rfl) ⟨?_, trivial⟩
        refine ⟨_, rfl, ?_⟩
        refine sbslice hS Tryz.underlying66 Tryz.sizeOf70 rfl Tryz.zeroValue70 rfl (.cons rfl rfl .nil) rfl ?_; clear hS; intro b159 w hS
        refine nil ?_
        refine ⟨fun _ => (by refine hS.sub ?_; repeat first | exact List.Sublist.refl _ | exact List.nil_sublist _ | apply List.Sublist.cons_cons | apply List.Sublist.cons), ?_⟩
        show wpA _ _ _ _ _ _ _ _ _ _
        show wpA _ _ _ _ _ _ _ _ _ _
        refine a_step (i := 12) (is := []) (by kernel_rfl) ⟨?_, trivial⟩
        refine ⟨_, rfl, ?_⟩
        refine sapp (bytes := 16) (size := 2) (v := rv9) (m := 1) hS rfl rfl Tryz.underlying66 ti70 rfl rfl rfl rfl (by decide) (blk_cells (hS.at _)) rfl rfl (by omega) (by omega) ?_; clear hS; intro v160 w hS
        refine nil ?_
        refine ⟨fun _ => (by refine hS.sub ?_; repeat first | exact List.Sublist.refl _ | exact List.nil_sublist _ | apply List.Sublist.cons_cons | apply List.Sublist.cons), ?_⟩
        show wpA _ _ _ _ _ _ _ _ _ _
        refine f_step 13 (by kernel_rfl) rfl (fun c a a' w h => by obtain ⟨_, v, hv, _⟩ := h; cases hv) (by refine hS.sub ?_; repeat first | exact List.Sublist.refl _ | exact List.nil_sublist _ | apply List.Sublist.cons_cons | apply List.Sublist.cons) (fun w hS => (fa68_4 h13)) ?_
        show wpA _ _ _ _ _ _ _ _ _ _
        refine a_step (i := 14) (is := []) (by kernel_rfl) ⟨?_, trivial⟩
        refine ⟨_, rfl, ?_⟩
        obtain ⟨a160, c160, rfl⟩ := row_shape (hS.row v160)
        refine sst hS rfl rfl Tryz.sizeOf66 rfl rfl rfl rfl ?_; clear hS; intro w hS
        refine nil ?_
        refine ⟨fun h => absurd h (by decide), ?_⟩
        show wpA _ _ _ _ _ _ _ _ _ _
        refine a_end (by kernel_rfl) ?_
        show Code.wp _ _ _ _ _
        refine region ?_
        refine sv (yMove h14) ?_
        refine sv (yAdd rfl rfl ⟨by omega, by omega⟩) ?_
        refine sv (yAsg rfl) ?_
        refine nil ?_
        exact ⟨_, _, rfl, ⟨j + 1, _, h1, h3, h10, h12, h13, rfl, (by rw [hkn, List.length_append, List.flatMap_append]; refine hS.sub ?_; repeat first | exact List.Sublist.refl _ | exact List.nil_sublist _ | apply List.Sublist.cons_cons | apply List.Sublist.cons), (by omega), rfl⟩, by omega⟩
       ·
        simp only [BS, ne_eq] at c147
        have hkn := known_no hrj c147
        refine skip ?_
        show Code.wp _ _ _ _ _
        refine region ?_
        refine sv (yMove h14) ?_
        refine sv (yAdd rfl rfl ⟨by omega, by omega⟩) ?_
        refine sv (yAsg rfl) ?_
        refine nil ?_
        exact ⟨_, _, rfl, ⟨j + 1, _, h1, h3, h10, h12, h13, rfl, (by rw [hkn]; exact hS), (by omega), rfl⟩, by omega⟩
      ·
       simp only [BS, ne_eq] at c133
       obtain rfl : j = (gau t.gauges k).readings.length := by omega
       obtain ⟨arv, crv, rfl⟩ := row_shape (hS.row rv9)
       refine exit ?_
       show Code.wp _ _ _ _ _
       refine region ?_
       refine sv (fa29_1 h10) ?_
       refine sv (yLdB rfl Tryz.isAgg25 (hS.at _) rfl) ?_
       refine sv (yLdBA h13 Tryz.isAgg68 Tryz.sizeOf68 (hS.at _) rfl rfl) ?_
       refine sbslice hS Tryz.underlying25 Tryz.sizeOf68 rfl Tryz.zeroValue68 rfl (.cons rfl rfl .nil) rfl ?_; clear hS; intro b165 w hS
       refine sapp (bytes := 80) (size := 5) (v := gv9) (m := 1) hS rfl rfl Tryz.underlying25 ti68 rfl rfl rfl rfl (by decide) (blk_cells (hS.at _)) rfl rfl (by omega) (by omega) ?_; clear hS; intro v166 w hS
       obtain ⟨a166, c166, rfl⟩ := row_shape (hS.row v166)
       refine sv (fa29_1 h10) ?_
       refine sst hS rfl rfl Tryz.sizeOf25 rfl rfl rfl rfl ?_; clear hS; intro w hS
       refine nil ?_
       show Code.wp _ _ _ _ _
       refine region ?_
       refine sv (yMove h12) ?_
       refine sv (yAdd rfl rfl ⟨by omega, by omega⟩) ?_
       refine sv (yAsg rfl) ?_
       refine nil ?_
       exact ⟨_, _, rfl, ⟨k + 1, _, its ++ [rowI (.slice arv (known ((gau t.gauges k).readings.take (gau t.gauges k).readings.length) now).length crv) 70 2 (known ((gau t.gauges k).readings.take (gau t.gauges k).readings.length) now).length ((known ((gau t.gauges k).readings.take (gau t.gauges k).readings.length) now).flatMap readC)], gss ++ [[.string (gau t.gauges k).name, .int .i64 (gau t.gauges k).err, .int .i64 (gau t.gauges k).rate, .slice adx (gau t.gauges k).datums.length cdx, .slice arv (known ((gau t.gauges k).readings.take (gau t.gauges k).readings.length) now).length crv]], h1, h3, h10, rfl, (by rw [List.flatten_append]; exact (((hS.sub (.cons _ (.cons_cons _ (.cons _ (List.Sublist.refl _))))).perm (List.Perm.cons _ (List.Perm.swap _ _ _))).packs).perm (List.Perm.swap _ _ _)), (by omega), (fun w2 e hi => keep_rows (hr2 w2 e (fun it hit => hi it (List.mem_append_left _ hit))) (gau_get hkl2) hgn hge1 hge2 (hsd.ext RDatum.stays e) (by have h9 := sl_reads (hi (rowI (.slice arv (known ((gau t.gauges k).readings.take (gau t.gauges k).readings.length) now).length crv) 70 2 (known ((gau t.gauges k).readings.take (gau t.gauges k).readings.length) now).length ((known ((gau t.gauges k).readings.take (gau t.gauges k).readings.length) now).flatMap readC)) (by simp)) rfl (fun r hr => read_I hsr r (List.mem_of_mem_take (known_mem hr))); rwa [List.take_length] at h9 ⊢)), rfl⟩, by omega⟩
     ·
      simp only [BS, ne_eq] at c116
      have hkk : k = t.gauges.length := by omega
      rw [hkk] at hS hr2
      obtain ⟨agv, cgv, rfl⟩ := row_shape (hS.row gv9)
      refine exit ?_
      show Code.wp _ _ _ _ _
      refine seq ?_
      refine region ?_
      refine sv (yLdBA h3 Tryz.isAgg29 Tryz.sizeOf29 (hS.ext.get hb3) rfl rfl) ?_
      refine sv (yLdBA h10 Tryz.isAgg29 Tryz.sizeOf29 (hS.at _) rfl rfl) ?_
      refine sv (yMove h1) ?_
      refine scall Tryz.call28 (.cons rfl (.cons rfl (.cons rfl .nil))) (c_same (b := lessT t now) (hg1.ext hS.ext) (ht1.ext hS.ext) (RSgt.fg (ht1.ext hS.ext) (sl_of_row (hS.row (.slice afv (keepF t now t.ctrs.length).length cfv)) (Rows.ext RFct.stays hS.ext hr) rfl) (sl_of_row (l := t.gauges.map (keepG now)) (hS.row (.slice agv t.gauges.length cgv)) (by have h9 := hr2 w hS.ext (fun it hi => hS.ok (packI its) (by simp) it hi); rwa [List.take_length] at h9) (by simp))) hI q1 (askE_of (less_ok hok) hnow) (less_box hok hnow) rfl) ?_
      rintro _ w ⟨rfl, hE⟩; replace hS := hS.step hE; clear hE
      refine sv (yMove rfl) ?_
      refine sgc hS rfl rfl rfl Tryz.call19 (fun g => .nil) (fun g => (c_Awake (hg1.ext hS.ext))) ?_; clear hS; intro v173 w hS g173
      refine sv (yAnd rfl (fun hB => (g173.1 hB)) rfl) ?_
      refine sv (yAsg rfl) ?_
      refine nil ?_
      show Code.wp _ _ _ _ _
      refine wp_ret ?_
      exact retV (res1 rfl rfl) (hE0.trans hS.ext)
end Go.Proofs.YtgidbailiababaaGreatDoor

/- part RdF -/
namespace Go.Proofs.YtgidbailiababaaGreatDoor
open Go Bx
section
variable {H : Type} {enc : TypeId × Value → H} {w : World} {base : Nat} {spare : Nat → Bool} {held : Bool} {fuel : Nat} {cs : List Value} {x : DataW H × List MemPlace}
theorem rdF24 (h : DataW.trod enc Tryz.prog w base spare held fuel 24 cs = some x) (hW : WOk Tryz.prog 24 x.1) : ∃ n c0 c1, cs = [c0, c1] ∧ (∃ y, DataW.trod enc Tryz.prog w base spare held n 3 [c0] = some y ∧ WOk Tryz.prog 3 y.1) ∧ (∃ y, DataW.trod enc Tryz.prog w base spare held n 22 [c1] = some y ∧ WOk Tryz.prog 22 y.1) := by
  have z3 : Tryz.prog.cellsOf 3 = 1 := by kernel_rfl
  have z22 : Tryz.prog.cellsOf 22 = 1 := by kernel_rfl
  obtain ⟨hl, n, hf⟩ := rdw_fields Tryz.underlying24 h hW
  have hz : Tryz.prog.cellsOf 24 = 2 := by kernel_rfl
  rw [hz] at hl
  obtain ⟨c0, c1, rfl⟩ := two_of hl
  have f0 : ∃ y, DataW.trod enc Tryz.prog w base spare held n 3 ((List.drop 0 [c0, c1]).take (Tryz.prog.cellsOf 3)) = some y ∧ WOk Tryz.prog 3 y.1 := hf 0 _ rfl
  rw [z3] at f0
  have f1 : ∃ y, DataW.trod enc Tryz.prog w base spare held n 22 ((List.drop 1 [c0, c1]).take (Tryz.prog.cellsOf 22)) = some y ∧ WOk Tryz.prog 22 y.1 := hf 1 _ rfl
  rw [z22] at f1
  exact ⟨n, c0, c1, rfl, f0, f1⟩
theorem rdLen12_of {cs : List Value} (h : cs.length = 12) : ∃ c0 c1 c2 c3 c4 c5 c6 c7 c8 c9 c10 c11, cs = [c0, c1, c2, c3, c4, c5, c6, c7, c8, c9, c10, c11] := by
  match cs, h with
  | [c0, c1, c2, c3, c4, c5, c6, c7, c8, c9, c10, c11], _ => exact ⟨c0, c1, c2, c3, c4, c5, c6, c7, c8, c9, c10, c11, rfl⟩
theorem rdF29 (h : DataW.trod enc Tryz.prog w base spare held fuel 29 cs = some x) (hW : WOk Tryz.prog 29 x.1) : ∃ n c0 c1 c2 c3 c4 c5 c6 c7 c8 c9 c10 c11, cs = [c0, c1, c2, c3, c4, c5, c6, c7, c8, c9, c10, c11] ∧ (∃ y, DataW.trod enc Tryz.prog w base spare held n 24 [c0, c1] = some y ∧ WOk Tryz.prog 24 y.1) ∧ (∃ y, DataW.trod enc Tryz.prog w base spare held n 25 [c2] = some y ∧ WOk Tryz.prog 25 y.1) ∧ (∃ y, DataW.trod enc Tryz.prog w base spare held n 3 [c3] = some y ∧ WOk Tryz.prog 3 y.1) ∧ (∃ y, DataW.trod enc Tryz.prog w base spare held n 3 [c4] = some y ∧ WOk Tryz.prog 3 y.1) ∧ (∃ y, DataW.trod enc Tryz.prog w base spare held n 3 [c5] = some y ∧ WOk Tryz.prog 3 y.1) ∧ (∃ y, DataW.trod enc Tryz.prog w base spare held n 26 [c6] = some y ∧ WOk Tryz.prog 26 y.1) ∧ (∃ y, DataW.trod enc Tryz.prog w base spare held n 27 [c7] = some y ∧ WOk Tryz.prog 27 y.1) ∧ (∃ y, DataW.trod enc Tryz.prog w base spare held n 3 [c8] = some y ∧ WOk Tryz.prog 3 y.1) ∧ (∃ y, DataW.trod enc Tryz.prog w base spare held n 3 [c9] = some y ∧ WOk Tryz.prog 3 y.1) ∧ (∃ y, DataW.trod enc Tryz.prog w base spare held n 3 [c10] = some y ∧ WOk Tryz.prog 3 y.1) ∧ (∃ y, DataW.trod enc Tryz.prog w base spare held n 3 [c11] = some y ∧ WOk Tryz.prog 3 y.1) := by
  have z3 : Tryz.prog.cellsOf 3 = 1 := by kernel_rfl
  have z24 : Tryz.prog.cellsOf 24 = 2 := by kernel_rfl
  have z25 : Tryz.prog.cellsOf 25 = 1 := by kernel_rfl
  have z26 : Tryz.prog.cellsOf 26 = 1 := by kernel_rfl
  have z27 : Tryz.prog.cellsOf 27 = 1 := by kernel_rfl
  obtain ⟨hl, n, hf⟩ := rdw_fields Tryz.underlying29 h hW
  have hz : Tryz.prog.cellsOf 29 = 12 := by kernel_rfl
  rw [hz] at hl
  obtain ⟨c0, c1, c2, c3, c4, c5, c6, c7, c8, c9, c10, c11, rfl⟩ := rdLen12_of hl
  have f0 : ∃ y, DataW.trod enc Tryz.prog w base spare held n 24 ((List.drop 0 [c0, c1, c2, c3, c4, c5, c6, c7, c8, c9, c10, c11]).take (Tryz.prog.cellsOf 24)) = some y ∧ WOk Tryz.prog 24 y.1 := hf 0 _ rfl
  rw [z24] at f0
  have f1 : ∃ y, DataW.trod enc Tryz.prog w base spare held n 25 ((List.drop 2 [c0, c1, c2, c3, c4, c5, c6, c7, c8, c9, c10, c11]).take (Tryz.prog.cellsOf 25)) = some y ∧ WOk Tryz.prog 25 y.1 := hf 1 _ rfl
  rw [z25] at f1
  have f2 : ∃ y, DataW.trod enc Tryz.prog w base spare held n 3 ((List.drop 3 [c0, c1, c2, c3, c4, c5, c6, c7, c8, c9, c10, c11]).take (Tryz.prog.cellsOf 3)) = some y ∧ WOk Tryz.prog 3 y.1 := hf 2 _ rfl
  rw [z3] at f2
  have f3 : ∃ y, DataW.trod enc Tryz.prog w base spare held n 3 ((List.drop 4 [c0, c1, c2, c3, c4, c5, c6, c7, c8, c9, c10, c11]).take (Tryz.prog.cellsOf 3)) = some y ∧ WOk Tryz.prog 3 y.1 := hf 3 _ rfl
  rw [z3] at f3
  have f4 : ∃ y, DataW.trod enc Tryz.prog w base spare held n 3 ((List.drop 5 [c0, c1, c2, c3, c4, c5, c6, c7, c8, c9, c10, c11]).take (Tryz.prog.cellsOf 3)) = some y ∧ WOk Tryz.prog 3 y.1 := hf 4 _ rfl
  rw [z3] at f4
  have f5 : ∃ y, DataW.trod enc Tryz.prog w base spare held n 26 ((List.drop 6 [c0, c1, c2, c3, c4, c5, c6, c7, c8, c9, c10, c11]).take (Tryz.prog.cellsOf 26)) = some y ∧ WOk Tryz.prog 26 y.1 := hf 5 _ rfl
  rw [z26] at f5
  have f6 : ∃ y, DataW.trod enc Tryz.prog w base spare held n 27 ((List.drop 7 [c0, c1, c2, c3, c4, c5, c6, c7, c8, c9, c10, c11]).take (Tryz.prog.cellsOf 27)) = some y ∧ WOk Tryz.prog 27 y.1 := hf 6 _ rfl
  rw [z27] at f6
  have f7 : ∃ y, DataW.trod enc Tryz.prog w base spare held n 3 ((List.drop 8 [c0, c1, c2, c3, c4, c5, c6, c7, c8, c9, c10, c11]).take (Tryz.prog.cellsOf 3)) = some y ∧ WOk Tryz.prog 3 y.1 := hf 7 _ rfl
  rw [z3] at f7
  have f8 : ∃ y, DataW.trod enc Tryz.prog w base spare held n 3 ((List.drop 9 [c0, c1, c2, c3, c4, c5, c6, c7, c8, c9, c10, c11]).take (Tryz.prog.cellsOf 3)) = some y ∧ WOk Tryz.prog 3 y.1 := hf 8 _ rfl
  rw [z3] at f8
  have f9 : ∃ y, DataW.trod enc Tryz.prog w base spare held n 3 ((List.drop 10 [c0, c1, c2, c3, c4, c5, c6, c7, c8, c9, c10, c11]).take (Tryz.prog.cellsOf 3)) = some y ∧ WOk Tryz.prog 3 y.1 := hf 9 _ rfl
  rw [z3] at f9
  have f10 : ∃ y, DataW.trod enc Tryz.prog w base spare held n 3 ((List.drop 11 [c0, c1, c2, c3, c4, c5, c6, c7, c8, c9, c10, c11]).take (Tryz.prog.cellsOf 3)) = some y ∧ WOk Tryz.prog 3 y.1 := hf 10 _ rfl
  rw [z3] at f10
  exact ⟨n, c0, c1, c2, c3, c4, c5, c6, c7, c8, c9, c10, c11, rfl, f0, f1, f2, f3, f4, f5, f6, f7, f8, f9, f10⟩
theorem rdF57 (h : DataW.trod enc Tryz.prog w base spare held fuel 57 cs = some x) (hW : WOk Tryz.prog 57 x.1) : ∃ n c0 c1 c2 c3, cs = [c0, c1, c2, c3] ∧ (∃ y, DataW.trod enc Tryz.prog w base spare held n 9 [c0] = some y ∧ WOk Tryz.prog 9 y.1) ∧ (∃ y, DataW.trod enc Tryz.prog w base spare held n 3 [c1] = some y ∧ WOk Tryz.prog 3 y.1) ∧ (∃ y, DataW.trod enc Tryz.prog w base spare held n 3 [c2] = some y ∧ WOk Tryz.prog 3 y.1) ∧ (∃ y, DataW.trod enc Tryz.prog w base spare held n 3 [c3] = some y ∧ WOk Tryz.prog 3 y.1) := by
  have z3 : Tryz.prog.cellsOf 3 = 1 := by kernel_rfl
  have z9 : Tryz.prog.cellsOf 9 = 1 := by kernel_rfl
  obtain ⟨hl, n, hf⟩ := rdw_fields Tryz.underlying57 h hW
  have hz : Tryz.prog.cellsOf 57 = 4 := by kernel_rfl
  rw [hz] at hl
  obtain ⟨c0, c1, c2, c3, rfl⟩ := four_of hl
  have f0 : ∃ y, DataW.trod enc Tryz.prog w base spare held n 9 ((List.drop 0 [c0, c1, c2, c3]).take (Tryz.prog.cellsOf 9)) = some y ∧ WOk Tryz.prog 9 y.1 := hf 0 _ rfl
  rw [z9] at f0
  have f1 : ∃ y, DataW.trod enc Tryz.prog w base spare held n 3 ((List.drop 1 [c0, c1, c2, c3]).take (Tryz.prog.cellsOf 3)) = some y ∧ WOk Tryz.prog 3 y.1 := hf 1 _ rfl
  rw [z3] at f1
  have f2 : ∃ y, DataW.trod enc Tryz.prog w base spare held n 3 ((List.drop 2 [c0, c1, c2, c3]).take (Tryz.prog.cellsOf 3)) = some y ∧ WOk Tryz.prog 3 y.1 := hf 2 _ rfl
  rw [z3] at f2
  have f3 : ∃ y, DataW.trod enc Tryz.prog w base spare held n 3 ((List.drop 3 [c0, c1, c2, c3]).take (Tryz.prog.cellsOf 3)) = some y ∧ WOk Tryz.prog 3 y.1 := hf 3 _ rfl
  rw [z3] at f3
  exact ⟨n, c0, c1, c2, c3, rfl, f0, f1, f2, f3⟩
theorem rdF61 (h : DataW.trod enc Tryz.prog w base spare held fuel 61 cs = some x) (hW : WOk Tryz.prog 61 x.1) : ∃ n c0 c1 c2 c3, cs = [c0, c1, c2, c3] ∧ (∃ y, DataW.trod enc Tryz.prog w base spare held n 3 [c0] = some y ∧ WOk Tryz.prog 3 y.1) ∧ (∃ y, DataW.trod enc Tryz.prog w base spare held n 3 [c1] = some y ∧ WOk Tryz.prog 3 y.1) ∧ (∃ y, DataW.trod enc Tryz.prog w base spare held n 3 [c2] = some y ∧ WOk Tryz.prog 3 y.1) ∧ (∃ y, DataW.trod enc Tryz.prog w base spare held n 59 [c3] = some y ∧ WOk Tryz.prog 59 y.1) := by
  have z3 : Tryz.prog.cellsOf 3 = 1 := by kernel_rfl
  have z59 : Tryz.prog.cellsOf 59 = 1 := by kernel_rfl
  obtain ⟨hl, n, hf⟩ := rdw_fields Tryz.underlying61 h hW
  have hz : Tryz.prog.cellsOf 61 = 4 := by kernel_rfl
  rw [hz] at hl
  obtain ⟨c0, c1, c2, c3, rfl⟩ := four_of hl
  have f0 : ∃ y, DataW.trod enc Tryz.prog w base spare held n 3 ((List.drop 0 [c0, c1, c2, c3]).take (Tryz.prog.cellsOf 3)) = some y ∧ WOk Tryz.prog 3 y.1 := hf 0 _ rfl
  rw [z3] at f0
  have f1 : ∃ y, DataW.trod enc Tryz.prog w base spare held n 3 ((List.drop 1 [c0, c1, c2, c3]).take (Tryz.prog.cellsOf 3)) = some y ∧ WOk Tryz.prog 3 y.1 := hf 1 _ rfl
  rw [z3] at f1
  have f2 : ∃ y, DataW.trod enc Tryz.prog w base spare held n 3 ((List.drop 2 [c0, c1, c2, c3]).take (Tryz.prog.cellsOf 3)) = some y ∧ WOk Tryz.prog 3 y.1 := hf 2 _ rfl
  rw [z3] at f2
  have f3 : ∃ y, DataW.trod enc Tryz.prog w base spare held n 59 ((List.drop 3 [c0, c1, c2, c3]).take (Tryz.prog.cellsOf 59)) = some y ∧ WOk Tryz.prog 59 y.1 := hf 3 _ rfl
  rw [z59] at f3
  exact ⟨n, c0, c1, c2, c3, rfl, f0, f1, f2, f3⟩
theorem rdF68 (h : DataW.trod enc Tryz.prog w base spare held fuel 68 cs = some x) (hW : WOk Tryz.prog 68 x.1) : ∃ n c0 c1 c2 c3 c4, cs = [c0, c1, c2, c3, c4] ∧ (∃ y, DataW.trod enc Tryz.prog w base spare held n 9 [c0] = some y ∧ WOk Tryz.prog 9 y.1) ∧ (∃ y, DataW.trod enc Tryz.prog w base spare held n 3 [c1] = some y ∧ WOk Tryz.prog 3 y.1) ∧ (∃ y, DataW.trod enc Tryz.prog w base spare held n 3 [c2] = some y ∧ WOk Tryz.prog 3 y.1) ∧ (∃ y, DataW.trod enc Tryz.prog w base spare held n 65 [c3] = some y ∧ WOk Tryz.prog 65 y.1) ∧ (∃ y, DataW.trod enc Tryz.prog w base spare held n 66 [c4] = some y ∧ WOk Tryz.prog 66 y.1) := by
  have z3 : Tryz.prog.cellsOf 3 = 1 := by kernel_rfl
  have z9 : Tryz.prog.cellsOf 9 = 1 := by kernel_rfl
  have z65 : Tryz.prog.cellsOf 65 = 1 := by kernel_rfl
  have z66 : Tryz.prog.cellsOf 66 = 1 := by kernel_rfl
  obtain ⟨hl, n, hf⟩ := rdw_fields Tryz.underlying68 h hW
  have hz : Tryz.prog.cellsOf 68 = 5 := by kernel_rfl
  rw [hz] at hl
  obtain ⟨c0, c1, c2, c3, c4, rfl⟩ := five_of hl
  have f0 : ∃ y, DataW.trod enc Tryz.prog w base spare held n 9 ((List.drop 0 [c0, c1, c2, c3, c4]).take (Tryz.prog.cellsOf 9)) = some y ∧ WOk Tryz.prog 9 y.1 := hf 0 _ rfl
  rw [z9] at f0
  have f1 : ∃ y, DataW.trod enc Tryz.prog w base spare held n 3 ((List.drop 1 [c0, c1, c2, c3, c4]).take (Tryz.prog.cellsOf 3)) = some y ∧ WOk Tryz.prog 3 y.1 := hf 1 _ rfl
  rw [z3] at f1
  have f2 : ∃ y, DataW.trod enc Tryz.prog w base spare held n 3 ((List.drop 2 [c0, c1, c2, c3, c4]).take (Tryz.prog.cellsOf 3)) = some y ∧ WOk Tryz.prog 3 y.1 := hf 2 _ rfl
  rw [z3] at f2
  have f3 : ∃ y, DataW.trod enc Tryz.prog w base spare held n 65 ((List.drop 3 [c0, c1, c2, c3, c4]).take (Tryz.prog.cellsOf 65)) = some y ∧ WOk Tryz.prog 65 y.1 := hf 3 _ rfl
  rw [z65] at f3
  have f4 : ∃ y, DataW.trod enc Tryz.prog w base spare held n 66 ((List.drop 4 [c0, c1, c2, c3, c4]).take (Tryz.prog.cellsOf 66)) = some y ∧ WOk Tryz.prog 66 y.1 := hf 4 _ rfl
  rw [z66] at f4
  exact ⟨n, c0, c1, c2, c3, c4, rfl, f0, f1, f2, f3, f4⟩
theorem rdF70 (h : DataW.trod enc Tryz.prog w base spare held fuel 70 cs = some x) (hW : WOk Tryz.prog 70 x.1) : ∃ n c0 c1, cs = [c0, c1] ∧ (∃ y, DataW.trod enc Tryz.prog w base spare held n 3 [c0] = some y ∧ WOk Tryz.prog 3 y.1) ∧ (∃ y, DataW.trod enc Tryz.prog w base spare held n 3 [c1] = some y ∧ WOk Tryz.prog 3 y.1) := by
  have z3 : Tryz.prog.cellsOf 3 = 1 := by kernel_rfl
  obtain ⟨hl, n, hf⟩ := rdw_fields Tryz.underlying70 h hW
  have hz : Tryz.prog.cellsOf 70 = 2 := by kernel_rfl
  rw [hz] at hl
  obtain ⟨c0, c1, rfl⟩ := two_of hl
  have f0 : ∃ y, DataW.trod enc Tryz.prog w base spare held n 3 ((List.drop 0 [c0, c1]).take (Tryz.prog.cellsOf 3)) = some y ∧ WOk Tryz.prog 3 y.1 := hf 0 _ rfl
  rw [z3] at f0
  have f1 : ∃ y, DataW.trod enc Tryz.prog w base spare held n 3 ((List.drop 1 [c0, c1]).take (Tryz.prog.cellsOf 3)) = some y ∧ WOk Tryz.prog 3 y.1 := hf 1 _ rfl
  rw [z3] at f1
  exact ⟨n, c0, c1, rfl, f0, f1⟩
theorem rdF74 (h : DataW.trod enc Tryz.prog w base spare held fuel 74 cs = some x) (hW : WOk Tryz.prog 74 x.1) : ∃ n c0 c1, cs = [c0, c1] ∧ (∃ y, DataW.trod enc Tryz.prog w base spare held n 3 [c0] = some y ∧ WOk Tryz.prog 3 y.1) ∧ (∃ y, DataW.trod enc Tryz.prog w base spare held n 3 [c1] = some y ∧ WOk Tryz.prog 3 y.1) := by
  have z3 : Tryz.prog.cellsOf 3 = 1 := by kernel_rfl
  obtain ⟨hl, n, hf⟩ := rdw_fields Tryz.underlying74 h hW
  have hz : Tryz.prog.cellsOf 74 = 2 := by kernel_rfl
  rw [hz] at hl
  obtain ⟨c0, c1, rfl⟩ := two_of hl
  have f0 : ∃ y, DataW.trod enc Tryz.prog w base spare held n 3 ((List.drop 0 [c0, c1]).take (Tryz.prog.cellsOf 3)) = some y ∧ WOk Tryz.prog 3 y.1 := hf 0 _ rfl
  rw [z3] at f0
  have f1 : ∃ y, DataW.trod enc Tryz.prog w base spare held n 3 ((List.drop 1 [c0, c1]).take (Tryz.prog.cellsOf 3)) = some y ∧ WOk Tryz.prog 3 y.1 := hf 1 _ rfl
  rw [z3] at f1
  exact ⟨n, c0, c1, rfl, f0, f1⟩
theorem rdF196 (h : DataW.trod enc Tryz.prog w base spare held fuel 196 cs = some x) (hW : WOk Tryz.prog 196 x.1) : ∃ n c0 c1 c2 c3 c4 c5, cs = [c0, c1, c2, c3, c4, c5] ∧ (∃ y, DataW.trod enc Tryz.prog w base spare held n 9 [c0] = some y ∧ WOk Tryz.prog 9 y.1) ∧ (∃ y, DataW.trod enc Tryz.prog w base spare held n 39 [c1] = some y ∧ WOk Tryz.prog 39 y.1) ∧ (∃ y, DataW.trod enc Tryz.prog w base spare held n 3 [c2] = some y ∧ WOk Tryz.prog 3 y.1) ∧ (∃ y, DataW.trod enc Tryz.prog w base spare held n 3 [c3] = some y ∧ WOk Tryz.prog 3 y.1) ∧ (∃ y, DataW.trod enc Tryz.prog w base spare held n 3 [c4] = some y ∧ WOk Tryz.prog 3 y.1) ∧ (∃ y, DataW.trod enc Tryz.prog w base spare held n 3 [c5] = some y ∧ WOk Tryz.prog 3 y.1) := by
  have z3 : Tryz.prog.cellsOf 3 = 1 := by kernel_rfl
  have z9 : Tryz.prog.cellsOf 9 = 1 := by kernel_rfl
  have z39 : Tryz.prog.cellsOf 39 = 1 := by kernel_rfl
  obtain ⟨hl, n, hf⟩ := rdw_fields Tryz.underlying196 h hW
  have hz : Tryz.prog.cellsOf 196 = 6 := by kernel_rfl
  rw [hz] at hl
  obtain ⟨c0, c1, c2, c3, c4, c5, rfl⟩ := six_of hl
  have f0 : ∃ y, DataW.trod enc Tryz.prog w base spare held n 9 ((List.drop 0 [c0, c1, c2, c3, c4, c5]).take (Tryz.prog.cellsOf 9)) = some y ∧ WOk Tryz.prog 9 y.1 := hf 0 _ rfl
  rw [z9] at f0
  have f1 : ∃ y, DataW.trod enc Tryz.prog w base spare held n 39 ((List.drop 1 [c0, c1, c2, c3, c4, c5]).take (Tryz.prog.cellsOf 39)) = some y ∧ WOk Tryz.prog 39 y.1 := hf 1 _ rfl
  rw [z39] at f1
  have f2 : ∃ y, DataW.trod enc Tryz.prog w base spare held n 3 ((List.drop 2 [c0, c1, c2, c3, c4, c5]).take (Tryz.prog.cellsOf 3)) = some y ∧ WOk Tryz.prog 3 y.1 := hf 2 _ rfl
  rw [z3] at f2
  have f3 : ∃ y, DataW.trod enc Tryz.prog w base spare held n 3 ((List.drop 3 [c0, c1, c2, c3, c4, c5]).take (Tryz.prog.cellsOf 3)) = some y ∧ WOk Tryz.prog 3 y.1 := hf 3 _ rfl
  rw [z3] at f3
  have f4 : ∃ y, DataW.trod enc Tryz.prog w base spare held n 3 ((List.drop 4 [c0, c1, c2, c3, c4, c5]).take (Tryz.prog.cellsOf 3)) = some y ∧ WOk Tryz.prog 3 y.1 := hf 4 _ rfl
  rw [z3] at f4
  have f5 : ∃ y, DataW.trod enc Tryz.prog w base spare held n 3 ((List.drop 5 [c0, c1, c2, c3, c4, c5]).take (Tryz.prog.cellsOf 3)) = some y ∧ WOk Tryz.prog 3 y.1 := hf 5 _ rfl
  rw [z3] at f5
  exact ⟨n, c0, c1, c2, c3, c4, c5, rfl, f0, f1, f2, f3, f4, f5⟩
theorem rdF205 (h : DataW.trod enc Tryz.prog w base spare held fuel 205 cs = some x) (hW : WOk Tryz.prog 205 x.1) : ∃ n c0 c1 c2, cs = [c0, c1, c2] ∧ (∃ y, DataW.trod enc Tryz.prog w base spare held n 3 [c0] = some y ∧ WOk Tryz.prog 3 y.1) ∧ (∃ y, DataW.trod enc Tryz.prog w base spare held n 74 [c1, c2] = some y ∧ WOk Tryz.prog 74 y.1) := by
  have z3 : Tryz.prog.cellsOf 3 = 1 := by kernel_rfl
  have z74 : Tryz.prog.cellsOf 74 = 2 := by kernel_rfl
  obtain ⟨hl, n, hf⟩ := rdw_fields Tryz.underlying205 h hW
  have hz : Tryz.prog.cellsOf 205 = 3 := by kernel_rfl
  rw [hz] at hl
  obtain ⟨c0, c1, c2, rfl⟩ := three_of hl
  have f0 : ∃ y, DataW.trod enc Tryz.prog w base spare held n 3 ((List.drop 0 [c0, c1, c2]).take (Tryz.prog.cellsOf 3)) = some y ∧ WOk Tryz.prog 3 y.1 := hf 0 _ rfl
  rw [z3] at f0
  have f1 : ∃ y, DataW.trod enc Tryz.prog w base spare held n 74 ((List.drop 1 [c0, c1, c2]).take (Tryz.prog.cellsOf 74)) = some y ∧ WOk Tryz.prog 74 y.1 := hf 1 _ rfl
  rw [z74] at f1
  exact ⟨n, c0, c1, c2, rfl, f0, f1⟩
end
end Go.Proofs.YtgidbailiababaaGreatDoor

/- part Rd1 -/
namespace Go.Proofs.YtgidbailiababaaGreatDoor
open Go Bx
theorem rd_Ints : RdW Tryz.prog 39 (fun w cs (l : List Int) => ∃ v, cs = [v] ∧ Sl w 1 RInt v l ∧ l.length * 8 ≤ 140737488351232) := rdw_slice (Rd.w (rd_int Tryz.underlying3)) (by kernel_rfl) (by decide) Tryz.underlying39 (by kernel_rfl)
theorem rd_Row : RdW Tryz.prog 39 RRow := fun H enc w base spare held fuel cs x h hW => by obtain ⟨a, v, e, i, -⟩ := rd_Ints H enc w base spare held fuel cs x h hW; exact ⟨a, v, e, i⟩
theorem rd_Rows : RdW Tryz.prog 59 (fun w cs (l : List (List Int)) => ∃ v, cs = [v] ∧ Sl w 1 RRow v l ∧ l.length * 24 ≤ 140737488351232) := rdw_slice rd_Row (by kernel_rfl) (by decide) Tryz.underlying59 (by kernel_rfl)
theorem rd_Span : RdW Tryz.prog 74 RSpan := by
  intro H enc w base spare held fuel cs x h hW
  obtain ⟨n, c0, c1, rfl, ⟨y0, f0, k0⟩, ⟨y1, f1, k1⟩⟩ := rdF74 h hW
  obtain ⟨a0, g0⟩ := (Rd.w (rd_int Tryz.underlying3)) _ _ _ _ _ _ _ _ _ f0 k0
  obtain ⟨a1, g1⟩ := (Rd.w (rd_int Tryz.underlying3)) _ _ _ _ _ _ _ _ _ f1 k1
  obtain ⟨e0, i0⟩ := g0; obtain ⟨e1, i1⟩ := g1; cases e0; cases e1; exact ⟨⟨a0, a1⟩, rfl, i0, i1⟩
theorem rd_Datum : RdW Tryz.prog 205 RDatum := by
  intro H enc w base spare held fuel cs x h hW
  obtain ⟨n, c0, c1, c2, rfl, ⟨y0, f0, k0⟩, ⟨y1, f1, k1⟩⟩ := rdF205 h hW
  obtain ⟨a0, g0⟩ := (Rd.w (rd_int Tryz.underlying3)) _ _ _ _ _ _ _ _ _ f0 k0
  obtain ⟨a1, g1⟩ := rd_Span _ _ _ _ _ _ _ _ _ f1 k1
  obtain ⟨e0, i0⟩ := g0; obtain ⟨e1, i1, i2⟩ := g1; cases e0; cases e1; exact ⟨⟨a0, a1⟩, rfl, i0, i1, i2⟩
theorem rd_Datums : RdW Tryz.prog 65 (fun w cs (l : List Datum) => ∃ v, cs = [v] ∧ Sl w 3 RDatum v l ∧ l.length * 24 ≤ 140737488351232) := rdw_slice rd_Datum (by kernel_rfl) (by decide) Tryz.underlying65 (by kernel_rfl)
theorem rd_Reading : RdW Tryz.prog 70 RRead := by
  intro H enc w base spare held fuel cs x h hW
  obtain ⟨n, c0, c1, rfl, ⟨y0, f0, k0⟩, ⟨y1, f1, k1⟩⟩ := rdF70 h hW
  obtain ⟨a0, g0⟩ := (Rd.w (rd_int Tryz.underlying3)) _ _ _ _ _ _ _ _ _ f0 k0
  obtain ⟨a1, g1⟩ := (Rd.w (rd_int Tryz.underlying3)) _ _ _ _ _ _ _ _ _ f1 k1
  obtain ⟨e0, i0⟩ := g0; obtain ⟨e1, i1⟩ := g1; cases e0; cases e1; exact ⟨⟨a0, a1⟩, rfl, i0, i1⟩
theorem rd_Readings : RdW Tryz.prog 66 (fun w cs (l : List Reading) => ∃ v, cs = [v] ∧ Sl w 2 RRead v l ∧ l.length * 16 ≤ 140737488351232) := rdw_slice rd_Reading (by kernel_rfl) (by decide) Tryz.underlying66 (by kernel_rfl)
theorem rd_Gauge : RdW Tryz.prog 68 RGauge := by
  intro H enc w base spare held fuel cs x h hW
  obtain ⟨n, c0, c1, c2, c3, c4, rfl, ⟨y0, f0, k0⟩, ⟨y1, f1, k1⟩, ⟨y2, f2, k2⟩, ⟨y3, f3, k3⟩, ⟨y4, f4, k4⟩⟩ := rdF68 h hW
  obtain ⟨a0, g0⟩ := (Rd.w (rd_str Tryz.underlying9)) _ _ _ _ _ _ _ _ _ f0 k0
  obtain ⟨a1, g1⟩ := (Rd.w (rd_int Tryz.underlying3)) _ _ _ _ _ _ _ _ _ f1 k1
  obtain ⟨a2, g2⟩ := (Rd.w (rd_int Tryz.underlying3)) _ _ _ _ _ _ _ _ _ f2 k2
  obtain ⟨a3, g3⟩ := rd_Datums _ _ _ _ _ _ _ _ _ f3 k3
  obtain ⟨a4, g4⟩ := rd_Readings _ _ _ _ _ _ _ _ _ f4 k4
  obtain ⟨e0, i0⟩ := g0; obtain ⟨e1, i1⟩ := g1; obtain ⟨e2, i2⟩ := g2; obtain ⟨v3, e3, i3, r3⟩ := g3; obtain ⟨v4, e4, i4, r4⟩ := g4; cases e0; cases e1; cases e2; cases e3; cases e4; exact ⟨⟨a0, a1, a2, a3, a4⟩, _, _, rfl, i0, i1, i2, i3, i4⟩
theorem rd_Gauges : RdW Tryz.prog 25 (fun w cs (l : List Gauge) => ∃ v, cs = [v] ∧ Sl w 5 RGauge v l ∧ l.length * 80 ≤ 140737488351232) := rdw_slice rd_Gauge (by kernel_rfl) (by decide) Tryz.underlying25 (by kernel_rfl)
theorem rd_Const : RdW Tryz.prog 196 RConst := by
  intro H enc w base spare held fuel cs x h hW
  obtain ⟨n, c0, c1, c2, c3, c4, c5, rfl, ⟨y0, f0, k0⟩, ⟨y1, f1, k1⟩, ⟨y2, f2, k2⟩, ⟨y3, f3, k3⟩, ⟨y4, f4, k4⟩, ⟨y5, f5, k5⟩⟩ := rdF196 h hW
  obtain ⟨a0, g0⟩ := (Rd.w (rd_str Tryz.underlying9)) _ _ _ _ _ _ _ _ _ f0 k0
  obtain ⟨a1, g1⟩ := rd_Ints _ _ _ _ _ _ _ _ _ f1 k1
  obtain ⟨a2, g2⟩ := (Rd.w (rd_int Tryz.underlying3)) _ _ _ _ _ _ _ _ _ f2 k2
  obtain ⟨a3, g3⟩ := (Rd.w (rd_int Tryz.underlying3)) _ _ _ _ _ _ _ _ _ f3 k3
  obtain ⟨a4, g4⟩ := (Rd.w (rd_int Tryz.underlying3)) _ _ _ _ _ _ _ _ _ f4 k4
  obtain ⟨a5, g5⟩ := (Rd.w (rd_int Tryz.underlying3)) _ _ _ _ _ _ _ _ _ f5 k5
  obtain ⟨e0, i0⟩ := g0; obtain ⟨e2, i2⟩ := g2; obtain ⟨e3, i3⟩ := g3; obtain ⟨e4, i4⟩ := g4; obtain ⟨e5, i5⟩ := g5; obtain ⟨v1, e1, i1, r1⟩ := g1; cases e0; cases e1; cases e2; cases e3; cases e4; cases e5; exact ⟨⟨a0, a1, a2, a3, a4, a5⟩, _, rfl, i0, i1, i2, i3, i4, i5⟩
theorem rd_Consts : RdW Tryz.prog 22 (fun w cs (l : List Const) => ∃ v, cs = [v] ∧ Sl w 6 RConst v l ∧ l.length * 72 ≤ 140737488351232) := rdw_slice rd_Const (by kernel_rfl) (by decide) Tryz.underlying22 (by kernel_rfl)
theorem rd_Table : RdW Tryz.prog 24 RTable := by
  intro H enc w base spare held fuel cs x h hW
  obtain ⟨n, c0, c1, rfl, ⟨y0, f0, k0⟩, ⟨y1, f1, k1⟩⟩ := rdF24 h hW
  obtain ⟨a0, g0⟩ := (Rd.w (rd_int Tryz.underlying3)) _ _ _ _ _ _ _ _ _ f0 k0
  obtain ⟨a1, g1⟩ := rd_Consts _ _ _ _ _ _ _ _ _ f1 k1
  obtain ⟨e0, i0⟩ := g0; obtain ⟨v1, e1, i1, r1⟩ := g1; cases e0; cases e1; exact ⟨⟨a0, a1⟩, _, rfl, i0, i1⟩
theorem rd_Ctr : RdW Tryz.prog 57 RCtr := by
  intro H enc w base spare held fuel cs x h hW
  obtain ⟨n, c0, c1, c2, c3, rfl, ⟨y0, f0, k0⟩, ⟨y1, f1, k1⟩, ⟨y2, f2, k2⟩, ⟨y3, f3, k3⟩⟩ := rdF57 h hW
  obtain ⟨a0, g0⟩ := (Rd.w (rd_str Tryz.underlying9)) _ _ _ _ _ _ _ _ _ f0 k0
  obtain ⟨a1, g1⟩ := (Rd.w (rd_int Tryz.underlying3)) _ _ _ _ _ _ _ _ _ f1 k1
  obtain ⟨a2, g2⟩ := (Rd.w (rd_int Tryz.underlying3)) _ _ _ _ _ _ _ _ _ f2 k2
  obtain ⟨a3, g3⟩ := (Rd.w (rd_int Tryz.underlying3)) _ _ _ _ _ _ _ _ _ f3 k3
  obtain ⟨e0, i0⟩ := g0; obtain ⟨e1, i1⟩ := g1; obtain ⟨e2, i2⟩ := g2; obtain ⟨e3, i3⟩ := g3; cases e0; cases e1; cases e2; cases e3; exact ⟨⟨a0, a1, a2, a3⟩, rfl, i0, i1, i2, i3⟩
theorem rd_Ctrs : RdW Tryz.prog 26 (fun w cs (l : List Ctr) => ∃ v, cs = [v] ∧ Sl w 4 RCtr v l ∧ l.length * 40 ≤ 140737488351232) := rdw_slice rd_Ctr (by kernel_rfl) (by decide) Tryz.underlying26 (by kernel_rfl)
theorem rd_Fct : RdW Tryz.prog 61 RFct := by
  intro H enc w base spare held fuel cs x h hW
  obtain ⟨n, c0, c1, c2, c3, rfl, ⟨y0, f0, k0⟩, ⟨y1, f1, k1⟩, ⟨y2, f2, k2⟩, ⟨y3, f3, k3⟩⟩ := rdF61 h hW
  obtain ⟨a0, g0⟩ := (Rd.w (rd_int Tryz.underlying3)) _ _ _ _ _ _ _ _ _ f0 k0
  obtain ⟨a1, g1⟩ := (Rd.w (rd_int Tryz.underlying3)) _ _ _ _ _ _ _ _ _ f1 k1
  obtain ⟨a2, g2⟩ := (Rd.w (rd_int Tryz.underlying3)) _ _ _ _ _ _ _ _ _ f2 k2
  obtain ⟨a3, g3⟩ := rd_Rows _ _ _ _ _ _ _ _ _ f3 k3
  obtain ⟨e0, i0⟩ := g0; obtain ⟨e1, i1⟩ := g1; obtain ⟨e2, i2⟩ := g2; obtain ⟨v3, e3, i3, r3⟩ := g3; cases e0; cases e1; cases e2; cases e3; exact ⟨⟨a0, a1, a2, a3⟩, _, rfl, i0, i1, i2, i3⟩
theorem rd_Fcts : RdW Tryz.prog 27 (fun w cs (l : List Fct) => ∃ v, cs = [v] ∧ Sl w 4 RFct v l ∧ l.length * 48 ≤ 140737488351232) := rdw_slice rd_Fct (by kernel_rfl) (by decide) Tryz.underlying27 (by kernel_rfl)
theorem rd_Sgt : RdW Tryz.prog 29 RSgt := by
  intro H enc w base spare held fuel cs x h hW
  obtain ⟨n, c0, c1, c2, c3, c4, c5, c6, c7, c8, c9, c10, c11, rfl, ⟨y0, f0, k0⟩, ⟨y1, f1, k1⟩, ⟨y2, f2, k2⟩, ⟨y3, f3, k3⟩, ⟨y4, f4, k4⟩, ⟨y5, f5, k5⟩, ⟨y6, f6, k6⟩, ⟨y7, f7, k7⟩, ⟨y8, f8, k8⟩, ⟨y9, f9, k9⟩, ⟨y10, f10, k10⟩⟩ := rdF29 h hW
  obtain ⟨a0, g0⟩ := rd_Table _ _ _ _ _ _ _ _ _ f0 k0
  obtain ⟨a1, g1⟩ := rd_Gauges _ _ _ _ _ _ _ _ _ f1 k1
  obtain ⟨a2, g2⟩ := (Rd.w (rd_int Tryz.underlying3)) _ _ _ _ _ _ _ _ _ f2 k2
  obtain ⟨a3, g3⟩ := (Rd.w (rd_int Tryz.underlying3)) _ _ _ _ _ _ _ _ _ f3 k3
  obtain ⟨a4, g4⟩ := (Rd.w (rd_int Tryz.underlying3)) _ _ _ _ _ _ _ _ _ f4 k4
  obtain ⟨a5, g5⟩ := rd_Ctrs _ _ _ _ _ _ _ _ _ f5 k5
  obtain ⟨a6, g6⟩ := rd_Fcts _ _ _ _ _ _ _ _ _ f6 k6
  obtain ⟨a7, g7⟩ := (Rd.w (rd_int Tryz.underlying3)) _ _ _ _ _ _ _ _ _ f7 k7
  obtain ⟨a8, g8⟩ := (Rd.w (rd_int Tryz.underlying3)) _ _ _ _ _ _ _ _ _ f8 k8
  obtain ⟨a9, g9⟩ := (Rd.w (rd_int Tryz.underlying3)) _ _ _ _ _ _ _ _ _ f9 k9
  obtain ⟨a10, g10⟩ := (Rd.w (rd_int Tryz.underlying3)) _ _ _ _ _ _ _ _ _ f10 k10
  obtain ⟨q0, e0, t0, t1⟩ := g0; obtain ⟨e2, i2⟩ := g2; obtain ⟨e3, i3⟩ := g3; obtain ⟨e4, i4⟩ := g4; obtain ⟨e7, i7⟩ := g7; obtain ⟨e8, i8⟩ := g8; obtain ⟨e9, i9⟩ := g9; obtain ⟨e10, i10⟩ := g10; obtain ⟨v1, e1, i1, r1⟩ := g1; obtain ⟨v5, e5, i5, r5⟩ := g5; obtain ⟨v6, e6, i6, r6⟩ := g6; cases e0; cases e1; cases e2; cases e3; cases e4; cases e5; cases e6; cases e7; cases e8; cases e9; cases e10; exact ⟨⟨a0, a1, a2, a3, a4, a5, a6, a7, a8, a9, a10⟩, _, _, _, _, rfl, ⟨_, rfl, t0, t1⟩, i1, i2, i3, i4, i5, i6, i7, i8, i9, i10⟩
end Go.Proofs.YtgidbailiababaaGreatDoor

/- part Laid -/
namespace Go.Proofs.YtgidbailiababaaGreatDoor
open Go Bx Go.ChangeShapes Go.WideShapes Go.RowKit
theorem laidEt : Tryz.prog.globalNamed "barrage/surge.level" = some 0 := by kernel_rfl
theorem laidTy : (Tryz.prog.globals[0]?).map (·.type) = some 74 := by kernel_rfl
theorem glb_of_laid {W : World} (h : laidMetH Tryz.prog [("barrage/surge.level", Rows.laid_barrage_surge_level)] W) : Glb W := by
  have h' : laidMet Tryz.prog [("barrage/surge.level", Rows.laid_barrage_surge_level)] W := h
  obtain ⟨ps, hv, -, -⟩ := h'
  obtain ⟨g, t, cs, fuel, p, q, hg, ht, hw, htr, -, -⟩ := hv
  obtain rfl : 0 = g := Option.some.inj (laidEt.symm.trans hg)
  obtain rfl : 74 = t := Option.some.inj (laidTy.symm.trans ht)
  obtain ⟨y0, y1, n, hx, hlen, h0, h1⟩ := trod_struct2 Tryz.underlying74 htr
  obtain ⟨a, e0, rfl, -⟩ := DataW.trod_int Tryz.underlying3 h0
  obtain ⟨b, e1, rfl, -⟩ := DataW.trod_int Tryz.underlying3 h1
  have hl2 : cs.toList.length = 2 := hlen.trans (by kernel_rfl)
  have hc : Tryz.prog.cellsOf 3 = 1 := by kernel_rfl
  obtain ⟨u0, u1, hcs⟩ : ∃ u0 u1, cs.toList = [u0, u1] := by
    match hm : cs.toList, hl2 with
    | [u0, u1], _ => exact ⟨u0, u1, rfl⟩
  rw [hcs] at e0 e1
  simp only [hc] at e0 e1
  have d0 : u0 = .int .i64 a := by simpa using e0
  have d1 : u1 = .int .i64 b := by simpa using e1
  have hd : (a = -20000) ∧ b = 20000 := by
    have := (Prod.mk.inj hx).1
    unfold Rows.laid_barrage_surge_level at this
    injection this with this
    simp only [List.cons.injEq, DataW.lit.injEq, Lit.int.injEq, and_true, true_and] at this
    exact ⟨this.1.symm, this.2.symm⟩
  obtain ⟨rfl, rfl⟩ := hd
  subst d0; subst d1
  intro j u hj
  have := World.var?_cell laidEt hw j
  rw [Nat.zero_add, this, ← Array.getElem?_toList, hcs]
  exact hj
noncomputable def laidWorld (os : Os) : World :=
  let w0 := World.holding Tryz.prog os ⟨#[], #[], []⟩
  { w0 with heap := w0.heap.modify 0 fun
      | .cells _ t frozen => .cells #[.int .i64 (-20000), .int .i64 20000] t frozen
      | o => o }
theorem laidWorld_met (os : Os) (args : Array Value) : laidMetH Tryz.prog [("barrage/surge.level", Rows.laid_barrage_surge_level)] ((laidWorld os).forCall (fun _ _ => 0) ⟨#[], args, []⟩).memory :=
  laidMetH_of_parts (laidMet_of_run (ps := [.cell 0 0, .cell 0 1]) 8 (by kernel_rfl) (by kernel_rfl) (by kernel_rfl)) (by kernel_rfl)
end Go.Proofs.YtgidbailiababaaGreatDoor

