/- Merged texts, part 5. -/
import Derived.Test.YtgidbailiababaaGreatDoorQ4
import Derived.ChangeKeysEq
set_option linter.all false
/- part Sx1 -/
namespace Go.Proofs.YtgidbailiababaaGreatDoor
open Go Bx Go.Proofs.Tryz
theorem c_tightenN {l : List Span} {g cap nn : Nat} {r : Int} {w0 w : World} {L9 : List Bx.Item} (hl : l.length = nn) (hS : StX [] w0 w (rowI (.slice (some ⟨g, 0, none⟩) nn cap) 74 2 nn ((l).flatMap spanC) :: L9)) (hmx : nn ≤ 1000) (hlb : LBd 40000000 l) (hr : 0 ≤ r ∧ r ≤ 5000) :
  CE Tryz.prog 84 #[.slice (some ⟨g, 0, none⟩) nn cap, .int .i64 r] w (fun u w' => u = .bool (someT r l) ∧ ∃ q : List Span, (someT r l = true → q = tightS r l) ∧ StX [] w0 w' (rowI (.slice (some ⟨g, 0, none⟩) nn cap) 74 2 nn ((q).flatMap spanC) :: L9)) := by
 subst hl
 exact c_tighten hS hmx hlb hr
set_option maxHeartbeats 8000000 in
theorem c_boxes {t : Sgt} {now : Int} {cv ov : Value} {ag ak ae aw ax : Option Addr} {cg ck ce cw cx bk mo : Nat} {os : List Span} {w0 w : World} {L9 : List Bx.Item} (h : RSgt w0 (scQ t cv ag ak ae cg ck ce) t) (hok : SgOk t) (hnow : Bd now 0 200000) (hg : Glb w0) (hown : (os = [] ∧ mo = 0 ∧ ov = .slice none 0 0) ∨ (os = baseS t now ∧ mo = t.ticks.toNat)) (hS : StX [] w0 w (blk bk (knQ t now cv ag ak ae cg ck ce aw cw ax cx ov) 123 :: rowI (ov) 74 2 mo ((os).flatMap spanC) :: rowI (.slice aw t.ticks.toNat cw) 74 2 t.ticks.toNat ((tidesS t).flatMap spanC) :: rowI (.slice ax t.ctrs.length cx) 3 1 t.ctrs.length ((curS t now).flatMap Bx.encI) :: L9)) : CE Tryz.prog 64 #[ptQ bk] w (fun u w' => ∃ ov' ms ls hs, ms.length = (boxS t now).length ∧ ls.length = (boxS t now).length ∧ hs.length = (boxS t now).length ∧ StX [] w0 w' (rowI (u) 115 9 (boxS t now).length (bxCs t.frm ((boxS t now).map Bo.mem) ms ls hs).flatten :: packI (inI ms ((boxS t now).map Bo.mem)) :: packI (inI ls ((boxS t now).map lowB)) :: packI (inI hs ((boxS t now).map highB)) :: blk bk (knQ t now cv ag ak ae cg ck ce aw cw ax cx ov') 123 :: rowI (ov') 74 2 t.ticks.toNat ((baseS t now).flatMap spanC) :: rowI (.slice aw t.ticks.toNat cw) 74 2 t.ticks.toNat ((tidesS t).flatMap spanC) :: rowI (.slice ax t.ctrs.length cx) 3 1 t.ctrs.length ((curS t now).flatMap Bx.encI) :: L9)) := by
 obtain ⟨hT, hG, hw64, hf64, hk64, hC, hF, hl64, hm64, hr64, hq64⟩ := RSgt.parts h
 have htk := hok.tk
 have hnc := hok.nc
 have hn4 := hok.nums4
 refine enterX func64 rfl ntmps64 rfl ?_
 skip
 refine seqX <| regionX rfl ?_
 refine sbox hS rfl rfl ?_; clear hS; intro b1 w hS
 refine salloc hS zeroValue110 rfl ?_; clear hS; intro b2 w hS
 refine nil ?_
 show Code.wpIn _ _ _ _ _ _ _
 refine seqX <| seqX <| region_anyX (C := (fun w => w.heap[b1]? = some (.cells ([ptQ bk] : List Value).toArray 107 (0, 0)))) mixed 0 7 (by kernel_rfl) rfl hS (fun w hS => (hS.at b1)) ?_
 clear hS; intro w hS
 refine hnil <| fsR 0 rfl (hS.at b1) (fun w hS => (yLdB rfl isAgg107 hS rfl)) <| fsR 1 rfl (hS.at b1) (fun w hS => (yBuildA zeroValue113 rfl underlying113 sizeOf3 .nil rfl)) <| fsR 2 rfl (hS.at b1) (fun w hS => (yLdB rfl isAgg107 hS rfl)) <| fsR 4 rfl (hS.at b1) (fun w hS => (yLdB rfl isAgg107 hS rfl)) <| awQ <| a1Q 3 (by kernel_rfl) rfl ?_
 replace hS : StX [] w0 w (blk bk (knQ t now cv ag ak ae cg ck ce aw cw ax cx ov) 123 :: rowI (ov) 74 2 mo ((os).flatMap spanC) :: rowI (.slice aw t.ticks.toNat cw) 74 2 t.ticks.toNat ((tidesS t).flatMap spanC) :: rowI (.slice ax t.ctrs.length cx) 3 1 t.ctrs.length ((curS t now).flatMap Bx.encI) :: blk b2 [.slice none 0 0] 110 :: blk b1 [ptQ bk] 107 :: L9) := hS.perm (List.perm_append_comm_assoc [_, _] [_, _, _, _] L9)
 refine scV hS call119 (.cons rfl .nil) (c_needS ⟨cv, ag, cg, ak, ck, ae, ce, aw, cw, ax, cx, hS.at bk, RTable.stays _ _ _ _ hS.ext hT, hG.ext RGauge.stays hS.ext, hC.ext RCtr.stays hS.ext, hF.ext RFct.stays hS.ext, sl_spans (hS.row (.slice aw t.ticks.toNat cw)) (tidesS_len ..) (lbd_i64 (tides_lbd hok)), sl_ints (hS.row (.slice ax t.ctrs.length cx)) (curS_len ..) (cur_i64 hok)⟩ hok) ?_; clear hS; intro w hS
 refine nil ?_
 refine ⟨fun _ => (hS.at b1), ?_⟩
 refine awQ <| awQ <| a1Q 5 (by kernel_rfl) rfl ?_
 refine scall call81 (.cons rfl .nil) (c_baseS h hok hnow hg hown hS) ?_
 rintro bv w ⟨ov', hM⟩; clear hS; have hS := hM; clear hM
 obtain ⟨go, co, rfl, -⟩ := row_some (hS.row bv) (by omega)
 refine nil ?_
 refine ⟨fun _ => (hS.at b1), ?_⟩
 refine awQ <| awQ <| a1Q 6 (by kernel_rfl) rfl ?_
 replace hS := (StX.pack (M := inI [] []) (StX.pack (M := inI [] []) (StX.pack (M := inI [] []) hS))).nilrow 115 9
 refine scall call118 (.cons rfl (.cons rfl (.cons rfl (.cons rfl (.cons rfl .nil))))) (c_choices (c := []) (nn := t.ticks.toNat)) ?_
 rintro _ w ⟨j5, j6, j7, j8, j9, rfl, hM⟩; replace hS := hS.call hM; clear hM
 replace hS : StX [] w0 w (blk j9 [.slice (some ⟨go, 0, none⟩) t.ticks.toNat co] 121 :: blk j8 [.int .i64 (needS t now)] 3 :: blk j7 [.int .i64 (([] : List Int).length : Int)] 3 :: blk j6 (chC ([] : List Int)) 113 :: blk j5 [ptQ bk] 107 :: rowI (.slice none 0 0) 115 9 (bl t []).length (bxCs t.frm ((bl t []).map Bo.mem) [] [] []).flatten :: packI (inI [] ((bl t []).map Bo.mem)) :: packI (inI [] ((bl t []).map lowB)) :: packI (inI [] ((bl t []).map highB)) :: rowI (.slice (some ⟨go, 0, none⟩) t.ticks.toNat co) 74 2 t.ticks.toNat ((baseS t now).flatMap spanC) :: blk bk (knQ t now cv ag ak ae cg ck ce aw cw ax cx ov') 123 :: rowI (ov') 74 2 t.ticks.toNat ((baseS t now).flatMap spanC) :: rowI (.slice aw t.ticks.toNat cw) 74 2 t.ticks.toNat ((tidesS t).flatMap spanC) :: rowI (.slice ax t.ctrs.length cx) 3 1 t.ctrs.length ((curS t now).flatMap Bx.encI) :: blk b2 [.slice none 0 0] 110 :: blk b1 [ptQ bk] 107 :: L9) := hS
 refine nil ?_
 refine ⟨fun _ => (hS.at b1), ?_⟩
 refine awQ <| a_end (by kernel_rfl) ?_
 show Code.wpIn _ _ _ _ _ _ _
 refine blockX ?_
 refine rangeQ (R := [blk j9 [.slice (some ⟨go, 0, none⟩) t.ticks.toNat co] 121, blk j8 [.int .i64 (needS t now)] 3, blk j7 [.int .i64 (([] : List Int).length : Int)] 3, blk j6 (chC ([] : List Int)) 113, blk j5 [ptQ bk] 107]) (L0 := rowI (.slice none 0 0) 115 9 (bl t []).length (bxCs t.frm ((bl t []).map Bo.mem) [] [] []).flatten :: packI (inI [] ((bl t []).map Bo.mem)) :: packI (inI [] ((bl t []).map lowB)) :: packI (inI [] ((bl t []).map highB)) :: rowI (.slice (some ⟨go, 0, none⟩) t.ticks.toNat co) 74 2 t.ticks.toNat ((baseS t now).flatMap spanC) :: blk bk (knQ t now cv ag ak ae cg ck ce aw cw ax cx ov') 123 :: rowI (ov') 74 2 t.ticks.toNat ((baseS t now).flatMap spanC) :: rowI (.slice aw t.ticks.toNat cw) 74 2 t.ticks.toNat ((tidesS t).flatMap spanC) :: rowI (.slice ax t.ctrs.length cx) 3 1 t.ctrs.length ((curS t now).flatMap Bx.encI) :: blk b2 [.slice none 0 0] 110 :: blk b1 [ptQ bk] 107 :: L9) (ps := [14, 15]) rfl call168 hS (it_choices h hok hnow hg t.ctrs.length [] (needS t now) (baseS t now) (some ⟨go, 0, none⟩) co _ _ _ _ _ (by simp) (need_nn now hok) (need_le hok) (baseS_len t now) (baseS_lbd hok now)) (fun cc pre L => cc = none ∧ ∃ v ms ls hs, ms.length = (bl t pre).length ∧ ls.length = (bl t pre).length ∧ hs.length = (bl t pre).length ∧ L = rowI (v) 115 9 (bl t pre).length (bxCs t.frm ((bl t pre).map Bo.mem) ms ls hs).flatten :: packI (inI ms ((bl t pre).map Bo.mem)) :: packI (inI ls ((bl t pre).map lowB)) :: packI (inI hs ((bl t pre).map highB)) :: rowI (.slice (some ⟨go, 0, none⟩) t.ticks.toNat co) 74 2 t.ticks.toNat ((baseS t now).flatMap spanC) :: blk bk (knQ t now cv ag ak ae cg ck ce aw cw ax cx ov') 123 :: rowI (ov') 74 2 t.ticks.toNat ((baseS t now).flatMap spanC) :: rowI (.slice aw t.ticks.toNat cw) 74 2 t.ticks.toNat ((tidesS t).flatMap spanC) :: rowI (.slice ax t.ctrs.length cx) 3 1 t.ctrs.length ((curS t now).flatMap Bx.encI) :: blk b2 [v] 110 :: blk b1 [ptQ bk] 107 :: L9) ⟨rfl, .slice none 0 0, [], [], [], rfl, rfl, rfl, rfl⟩ (fun _ => rfl) (fun pre w L M hcb2 hS => by
  obtain ⟨-, v, ms, ls, hs, -, -, -, rfl⟩ := hcb2
  have hq := hS.sub (List.sublist_append_left _ M)
  exact ⟨hq.at bk, sl_spans (hq.row (.slice aw t.ticks.toNat cw)) (tidesS_len ..) (lbd_i64 (tides_lbd hok)), sl_ints (hq.row (.slice ax t.ctrs.length cx)) (curS_len ..) (cur_i64 hok), sl_spans (hq.row (.slice (some ⟨go, 0, none⟩) t.ticks.toNat co)) (baseS_len ..) (lbd_i64 (baseS_lbd hok now))⟩) ?_ ?_ ?_
 ·
  clear hS
  intro yl2 pre x w L M M0 hT hsub hcb2 hS
  obtain ⟨-, v, ms, ls, hs, hl1, hl2, hl3, rfl⟩ := hcb2
  obtain ⟨hTp, hTs, hTl⟩ := hT.last
  obtain ⟨⟨xc, xs2⟩, xv⟩ := x
  obtain ⟨axv, cxv, hxv⟩ := hTs
  obtain rfl : xv = _ := hxv
  obtain ⟨hxl, hxn, hxb, hxi⟩ := cho_facts hok (cho_of hTp)
  have hbb := bl_bd hok hTp
  replace hS : StX [] w0 w (rowI (v) 115 9 (bl t pre).length (bxCs t.frm ((bl t pre).map Bo.mem) ms ls hs).flatten :: packI (inI ms ((bl t pre).map Bo.mem)) :: packI (inI ls ((bl t pre).map lowB)) :: packI (inI hs ((bl t pre).map highB)) :: rowI (.slice (some ⟨go, 0, none⟩) t.ticks.toNat co) 74 2 t.ticks.toNat ((baseS t now).flatMap spanC) :: blk bk (knQ t now cv ag ak ae cg ck ce aw cw ax cx ov') 123 :: rowI (ov') 74 2 t.ticks.toNat ((baseS t now).flatMap spanC) :: rowI (.slice aw t.ticks.toNat cw) 74 2 t.ticks.toNat ((tidesS t).flatMap spanC) :: rowI (.slice ax t.ctrs.length cx) 3 1 t.ctrs.length ((curS t now).flatMap Bx.encI) :: blk b2 [v] 110 :: blk b1 [ptQ bk] 107 :: (L9 ++ M)) := hS
  refine seqX <| regionX rfl ?_
  refine salloc hS zeroValue113 rfl ?_; clear hS; intro b3 w hS
  refine sst hS rfl rfl sizeOf113 rfl rfl rfl rfl ?_; clear hS; intro w hS
  refine nil ?_
  show Code.wpIn _ _ _ _ _ _ _
  refine regionX rfl <| sv (yAsg rfl) <| nil ?_
  refine ⟨_, blk b3 (chC xc) 113 :: rowI (v) 115 9 (bl t pre).length (bxCs t.frm ((bl t pre).map Bo.mem) ms ls hs).flatten :: packI (inI ms ((bl t pre).map Bo.mem)) :: packI (inI ls ((bl t pre).map lowB)) :: packI (inI hs ((bl t pre).map highB)) :: rowI (.slice (some ⟨go, 0, none⟩) t.ticks.toNat co) 74 2 t.ticks.toNat ((baseS t now).flatMap spanC) :: blk bk (knQ t now cv ag ak ae cg ck ce aw cw ax cx ov') 123 :: rowI (ov') 74 2 t.ticks.toNat ((baseS t now).flatMap spanC) :: rowI (.slice aw t.ticks.toNat cw) 74 2 t.ticks.toNat ((tidesS t).flatMap spanC) :: rowI (.slice ax t.ctrs.length cx) 3 1 t.ctrs.length ((curS t now).flatMap Bx.encI) :: blk b2 [v] 110 :: blk b1 [ptQ bk] 107 :: L9, rfl, hS, ?_⟩
  clear hS hsub; clear M; intro M w hsub hS; replace hS : StX [] w0 w (blk b3 (chC xc) 113 :: rowI (v) 115 9 (bl t pre).length (bxCs t.frm ((bl t pre).map Bo.mem) ms ls hs).flatten :: packI (inI ms ((bl t pre).map Bo.mem)) :: packI (inI ls ((bl t pre).map lowB)) :: packI (inI hs ((bl t pre).map highB)) :: rowI (.slice (some ⟨go, 0, none⟩) t.ticks.toNat co) 74 2 t.ticks.toNat ((baseS t now).flatMap spanC) :: blk bk (knQ t now cv ag ak ae cg ck ce aw cw ax cx ov') 123 :: rowI (ov') 74 2 t.ticks.toNat ((baseS t now).flatMap spanC) :: rowI (.slice aw t.ticks.toNat cw) 74 2 t.ticks.toNat ((tidesS t).flatMap spanC) :: rowI (.slice ax t.ctrs.length cx) 3 1 t.ctrs.length ((curS t now).flatMap Bx.encI) :: blk b2 [v] 110 :: blk b1 [ptQ bk] 107 :: (L9 ++ M)) := hS
  refine blockX <| seqX <| regionX rfl ?_
  have hRd : RdC bk 123 (knQ t now cv ag ak ae cg ck ce aw cw ax cx ov') t now aw ax (some ⟨go, 0, none⟩) cw cx co (baseS t now) w := by
   have hq := hS.sub (.cons _ (List.sublist_append_left (rowI (v) 115 9 (bl t pre).length (bxCs t.frm ((bl t pre).map Bo.mem) ms ls hs).flatten :: packI (inI ms ((bl t pre).map Bo.mem)) :: packI (inI ls ((bl t pre).map lowB)) :: packI (inI hs ((bl t pre).map highB)) :: rowI (.slice (some ⟨go, 0, none⟩) t.ticks.toNat co) 74 2 t.ticks.toNat ((baseS t now).flatMap spanC) :: blk bk (knQ t now cv ag ak ae cg ck ce aw cw ax cx ov') 123 :: rowI (ov') 74 2 t.ticks.toNat ((baseS t now).flatMap spanC) :: rowI (.slice aw t.ticks.toNat cw) 74 2 t.ticks.toNat ((tidesS t).flatMap spanC) :: rowI (.slice ax t.ctrs.length cx) 3 1 t.ctrs.length ((curS t now).flatMap Bx.encI) :: blk b2 [v] 110 :: blk b1 [ptQ bk] 107 :: L9) M))
   exact ⟨hq.at bk, sl_spans (hq.row (.slice aw t.ticks.toNat cw)) (tidesS_len ..) (lbd_i64 (tides_lbd hok)), sl_ints (hq.row (.slice ax t.ctrs.length cx)) (curS_len ..) (cur_i64 hok), sl_spans (hq.row (.slice (some ⟨go, 0, none⟩) t.ticks.toNat co)) (baseS_len ..) (lbd_i64 (baseS_lbd hok now))⟩
  have hxs := hTl w (fun it hit => hS.ok it (List.mem_cons_of_mem _ (List.mem_append_right (rowI (v) 115 9 (bl t pre).length (bxCs t.frm ((bl t pre).map Bo.mem) ms ls hs).flatten :: packI (inI ms ((bl t pre).map Bo.mem)) :: packI (inI ls ((bl t pre).map lowB)) :: packI (inI hs ((bl t pre).map highB)) :: rowI (.slice (some ⟨go, 0, none⟩) t.ticks.toNat co) 74 2 t.ticks.toNat ((baseS t now).flatMap spanC) :: blk bk (knQ t now cv ag ak ae cg ck ce aw cw ax cx ov') 123 :: rowI (ov') 74 2 t.ticks.toNat ((baseS t now).flatMap spanC) :: rowI (.slice aw t.ticks.toNat cw) 74 2 t.ticks.toNat ((tidesS t).flatMap spanC) :: rowI (.slice ax t.ctrs.length cx) 3 1 t.ctrs.length ((curS t now).flatMap Bx.encI) :: blk b2 [v] 110 :: blk b1 [ptQ bk] 107 :: L9) (hsub it hit)))) hRd
  refine sv (yMove rfl) ?_
  refine scall call120 (.cons rfl .nil) (c_CloneS hxs hxn (by omega)) ?_
  rintro gv w hM; replace hS := hS.call1 hM; clear hM
  obtain ⟨gl, cl, rfl, -⟩ := row_some (hS.row gv) (by omega)
  refine sv (yAsg rfl) <| nil ?_
  show Code.wpIn _ _ _ _ _ _ _
  refine seqX <| seqX <| regionX rfl <| sv (yMove rfl) <| sv (yLdB rfl isAgg107 (hS.at _) rfl) <| sv (yNil rfl) <| sv (fa123_0 rfl) <| sv (fa29_9 rfl) <| sv (yLdB rfl isAgg3 (hS.at _) rfl) ?_
  refine scall call84 (.cons rfl (.cons rfl .nil)) (c_tightenN hxn hS (by omega) hxb ⟨rate_nn hok, by have := hn4.2.2.1; omega⟩) ?_
  rintro _ w ⟨rfl, q, hq, hM⟩; clear hS; have hS := hM; clear hM
  refine sv (yNot rfl) <| nil ?_
  show Code.wpIn _ _ _ _ _ _ _
  refine condX rfl (fun c25 => ?_) (fun c25 => ?_)
  ·
   have hst : someT t.rate xs2 = false := by cases hh : someT t.rate xs2 with | false => rfl | true => rw [hh] at c25; cases c25
   refine exitX ?_
   exact ⟨_, ⟨rfl, v, ms, ls, hs, by rw [bl_no hst]; exact hl1, by rw [bl_no hst]; exact hl2, by rw [bl_no hst]; exact hl3, rfl⟩, (by rw [bl_no hst]; exact hS.sub (.cons _ (.cons _ lrQ)))⟩
  ·
   have hst : someT t.rate xs2 = true := by cases hh : someT t.rate xs2 with | true => rfl | false => rw [hh] at c25; cases c25
   obtain rfl := hq hst
   have hqb : LBd 40000000 (tightS t.rate xs2) := tight_sbd (rate_nn hok) hxb
   refine skipX ?_
   show Code.wpIn _ _ _ _ _ _ _
   refine seqX <| regionX rfl <| sv (yMove rfl) <| sv (yLdB rfl isAgg107 (hS.at _) rfl) <| sv (yNil rfl) <| sv (fa123_0 rfl) <| sv (fa29_3 rfl) <| sv (yLdB rfl isAgg3 (hS.at _) rfl) ?_
   refine scall call121 (.cons rfl (.cons rfl .nil)) (c_endsS (sl_spans (hS.row (.slice (some ⟨gl, 0, none⟩) t.ticks.toNat cl)) ((tightS_len ..).trans hxn) (lbd_i64 hqb)) ((tightS_len ..).trans hxn) (by omega)) ?_
   rintro _ w ⟨lv, hv, rfl, hM⟩; obtain ⟨alv, clv, rfl⟩ := row_shape (hM.row lv)
   obtain ⟨ahv, chv, rfl⟩ := row_shape (hM.row hv)
   replace hS := hS.call hM; clear hM
   replace hS : StX [] w0 w (rowI (.slice alv t.ticks.toNat clv) 3 1 t.ticks.toNat ((losS (tightS t.rate xs2)).flatMap Bx.encI) :: rowI (.slice ahv t.ticks.toNat chv) 3 1 t.ticks.toNat ((hisS (tightS t.rate xs2)).flatMap Bx.encI) :: rowI (.slice (some ⟨gl, 0, none⟩) t.ticks.toNat cl) 74 2 t.ticks.toNat ((tightS t.rate xs2).flatMap spanC) :: blk b3 (chC xc) 113 :: rowI (v) 115 9 (bl t pre).length (bxCs t.frm ((bl t pre).map Bo.mem) ms ls hs).flatten :: packI (inI ms ((bl t pre).map Bo.mem)) :: packI (inI ls ((bl t pre).map lowB)) :: packI (inI hs ((bl t pre).map highB)) :: rowI (.slice (some ⟨go, 0, none⟩) t.ticks.toNat co) 74 2 t.ticks.toNat ((baseS t now).flatMap spanC) :: blk bk (knQ t now cv ag ak ae cg ck ce aw cw ax cx ov') 123 :: rowI (ov') 74 2 t.ticks.toNat ((baseS t now).flatMap spanC) :: rowI (.slice aw t.ticks.toNat cw) 74 2 t.ticks.toNat ((tidesS t).flatMap spanC) :: rowI (.slice ax t.ctrs.length cx) 3 1 t.ctrs.length ((curS t now).flatMap Bx.encI) :: blk b2 [v] 110 :: blk b1 [ptQ bk] 107 :: (L9 ++ M)) := hS
   refine sv (yMove rfl) <| sv (yExt rfl rfl) <| sv (yExt rfl rfl) ?_
   refine salloc hS zeroValue41 rfl ?_; clear hS; intro b5 w hS
   refine salloc hS zeroValue41 rfl ?_; clear hS; intro b6 w hS
   refine sst hS rfl rfl sizeOf41 rfl rfl rfl rfl ?_; clear hS; intro w hS
   refine sst hS rfl rfl sizeOf41 rfl rfl rfl rfl ?_; clear hS; intro w hS
   refine nil ?_
   show Code.wpIn _ _ _ _ _ _ _
   refine region_anyX (C := (fun w => w.heap[b2]? = some (.cells ([v] : List Value).toArray 110 (0, 0)) ∧ w.heap[b3]? = some (.cells (chC xc : List Value).toArray 113 (0, 0)) ∧ w.heap[b1]? = some (.cells ([ptQ bk] : List Value).toArray 107 (0, 0)) ∧ w.heap[bk]? = some (.cells ((knQ t now cv ag ak ae cg ck ce aw cw ax cx ov') : List Value).toArray 123 (0, 0)) ∧ w.heap[b5]? = some (.cells ([.int .i64 t.frm, .slice alv t.ticks.toNat clv] : List Value).toArray 41 (0, 0)) ∧ w.heap[b6]? = some (.cells ([.int .i64 t.frm, .slice ahv t.ticks.toNat chv] : List Value).toArray 41 (0, 0)))) mixed 0 15 (by kernel_rfl) rfl hS (fun w hS => ⟨hS.at b2, hS.at b3, hS.at b1, hS.at bk, hS.at b5, hS.at b6⟩) ?_
   clear hS; intro w hS
   refine hnil <| fsR 0 rfl ⟨hS.at b2, hS.at b3, hS.at b1, hS.at bk, hS.at b5, hS.at b6⟩ (fun w hS => (yLdB rfl isAgg110 hS.1 rfl)) <| fsR 1 rfl ⟨hS.at b2, hS.at b3, hS.at b1, hS.at bk, hS.at b5, hS.at b6⟩ (fun w hS => (yLdBA rfl isAgg113 sizeOf113 hS.2.1 rfl rfl)) <| fsR 2 rfl ⟨hS.at b2, hS.at b3, hS.at b1, hS.at bk, hS.at b5, hS.at b6⟩ (fun w hS => (yLdB rfl isAgg107 hS.2.2.1 rfl)) <| fsR 3 rfl ⟨hS.at b2, hS.at b3, hS.at b1, hS.at bk, hS.at b5, hS.at b6⟩ (fun w hS => (yNil rfl)) <| fsR 4 rfl ⟨hS.at b2, hS.at b3, hS.at b1, hS.at bk, hS.at b5, hS.at b6⟩ (fun w hS => (fa123_3 rfl)) <| fsR 5 rfl ⟨hS.at b2, hS.at b3, hS.at b1, hS.at bk, hS.at b5, hS.at b6⟩ (fun w hS => (yLdB rfl isAgg39 hS.2.2.2.1 rfl)) <| fsR 6 rfl ⟨hS.at b2, hS.at b3, hS.at b1, hS.at bk, hS.at b5, hS.at b6⟩ (fun w hS => (yLen rfl underlying39)) <| fsR 7 rfl ⟨hS.at b2, hS.at b3, hS.at b1, hS.at bk, hS.at b5, hS.at b6⟩ (fun w hS => (ySlA (j := t.ctrs.length) (m := 4) rfl rfl runUnderlying113 sizeOf3 (by omega))) ?_
   refine fsR 9 rfl ⟨hS.at b2, hS.at b3, hS.at b1, hS.at bk, hS.at b5, hS.at b6⟩ (fun w hS => (yLdBA rfl isAgg41 sizeOf41 hS.2.2.2.2.1 rfl rfl)) <| fsR 10 rfl ⟨hS.at b2, hS.at b3, hS.at b1, hS.at bk, hS.at b5, hS.at b6⟩ (fun w hS => (yLdBA rfl isAgg41 sizeOf41 hS.2.2.2.2.2 rfl rfl)) <| awQ <| a1Q 8 (by kernel_rfl) rfl ?_
   refine sappS (bytes := 8) (size := 1) (news := xc.flatMap Bx.encI) (hS.nilrow 3 1) rfl rfl underlying39 ti3 rfl rfl rfl rfl (by decide) sizeOf3 (fun hh => ⟨b3, 0, rfl, cho_cells (hS.at b3) hxl (by omega)⟩) (by rw [flat_len encI_len, hxl]) (ints_one _) (by omega) (by omega) ?_; clear hS; intro v44 w hS; rw [Nat.zero_add, List.nil_append] at hS
   obtain ⟨a44, c44, rfl⟩ := row_shape (hS.row v44)
   refine nil ?_
   refine ⟨fun _ => ⟨hS.at b2, hS.at b3, hS.at b1, hS.at bk, hS.at b5, hS.at b6⟩, ?_⟩
   refine awQ <| fsR 11 rfl ⟨hS.at b2, hS.at b3, hS.at b1, hS.at bk, hS.at b5, hS.at b6⟩ (fun w hS => (yBuild zeroValue43 rfl pl43 (.cons rfl rfl (.cons rfl rfl (.cons rfl rfl .nil))) rfl)) <| fsR 12 rfl ⟨hS.at b2, hS.at b3, hS.at b1, hS.at bk, hS.at b5, hS.at b6⟩ (fun w hS => (yBuild zeroValue115 rfl pl115 (.cons rfl rfl (.cons rfl rfl .nil)) rfl)) <| awQ <| a1Q 13 (by kernel_rfl) rfl ?_
   refine sbslice hS underlying110 sizeOf115 rfl zeroValue115 rfl (.cons rfl rfl .nil) rfl ?_; clear hS; intro b49 w hS
   refine nil ?_
   refine ⟨fun _ => ⟨hS.at b2, hS.at b3, hS.at b1, hS.at bk, hS.at b5, hS.at b6⟩, ?_⟩
   refine awQ <| awQ <| a1Q 14 (by kernel_rfl) rfl ?_
   refine sapp (bytes := 120) (size := 9) (v := v) (m := 1) hS rfl rfl underlying110 ti115 rfl rfl rfl rfl (by decide) (blk_cells (hS.at _)) rfl rfl (by omega) (by omega) ?_; clear hS; intro v50 w hS
   refine nil ?_
   refine ⟨fun _ => ⟨hS.at b2, hS.at b3, hS.at b1, hS.at bk, hS.at b5, hS.at b6⟩, ?_⟩
   refine awQ <| awQ <| a1Q 15 (by kernel_rfl) rfl ?_
   obtain ⟨a50, c50, rfl⟩ := row_shape (hS.row v50)
   refine sst hS rfl rfl sizeOf110 rfl rfl rfl rfl ?_; clear hS; intro w hS
   refine nil ?_
   refine ⟨fun h => absurd h (by decide), ?_⟩
   refine awQ <| a_end (by kernel_rfl) ?_
   exact ⟨_, ⟨rfl, _, ms ++ [.slice a44 t.ctrs.length c44], ls ++ [.slice alv t.ticks.toNat clv], hs ++ [.slice ahv t.ticks.toNat chv], by rw [bl_yes hst]; simp [hl1], by rw [bl_yes hst]; simp [hl2], by rw [bl_yes hst]; simp [hl3], rfl⟩, (by rw [bl_yes hst]; exact bxEnd ⟨xc, tightS t.rate xs2⟩ hxl (by simp [lowB, losS, tightS_len, hxn]) (by simp [highB, hisS, tightS_len, hxn]) hl1 hl2 hl3 hS)⟩
 ·
  clear hS
  intro D w L xs hZ hcb hS
  obtain ⟨-, v, ms, ls, hs, hl1, hl2, hl3, rfl⟩ := hcb
  rw [bl_all hZ] at hl1 hl2 hl3 hS
  replace hS : StX [] w0 w (obj D (.deferred (some [])) :: rowI (v) 115 9 (boxS t now).length (bxCs t.frm ((boxS t now).map Bo.mem) ms ls hs).flatten :: packI (inI ms ((boxS t now).map Bo.mem)) :: packI (inI ls ((boxS t now).map lowB)) :: packI (inI hs ((boxS t now).map highB)) :: rowI (.slice (some ⟨go, 0, none⟩) t.ticks.toNat co) 74 2 t.ticks.toNat ((baseS t now).flatMap spanC) :: blk bk (knQ t now cv ag ak ae cg ck ce aw cw ax cx ov') 123 :: rowI (ov') 74 2 t.ticks.toNat ((baseS t now).flatMap spanC) :: rowI (.slice aw t.ticks.toNat cw) 74 2 t.ticks.toNat ((tidesS t).flatMap spanC) :: rowI (.slice ax t.ctrs.length cx) 3 1 t.ctrs.length ((curS t now).flatMap Bx.encI) :: blk b2 [v] 110 :: blk b1 [ptQ bk] 107 :: L9) := hS
  show Code.wpIn _ _ _ _ _ _ _
  refine seqX <| regionX rfl ?_
  obtain ⟨av, cv2, rfl⟩ := row_shape (hS.row v)
  refine sv (yLdB rfl isAgg110 (hS.at _) rfl) ?_
  refine sst hS rfl rfl sizeOf110 rfl rfl rfl rfl ?_; clear hS; intro w hS
  refine nil ?_
  show Code.wpIn _ _ _ _ _ _ _
  refine wpIn_ret ?_
  refine leafD hS (fun w hS => (resV1 rfl (rc1 rfl isAgg110 (hS.at b2) rfl))) (fun w hS => ?_)
  exact ⟨_, ms, ls, hs, hl1, hl2, hl3, hS.sub (.cons _ (.cons_cons _ (.cons_cons _ (.cons_cons _ (.cons_cons _ (.cons _ (.cons_cons _ (.cons_cons _ (.cons_cons _ (.cons_cons _ (.cons _ (.cons _ lrQ))))))))))))⟩
 ·
  intro D w L c pre hcb hS; exact absurd hcb.1 (by simp)
end Go.Proofs.YtgidbailiababaaGreatDoor

/- part S15 -/
namespace Go.Proofs.YtgidbailiababaaGreatDoor
open Go Bx
variable {ρ : Operand → Value} {w : World} {ty : TypeId}
theorem eqInCh {a0 b0 a1 b1 a2 b2 a3 b3 : Int} : (Op.equalIn 10000 113 (.agg #[.int .i64 a0, .int .i64 a1, .int .i64 a2, .int .i64 a3]) (.agg #[.int .i64 b0, .int .i64 b1, .int .i64 b2, .int .i64 b3])).run Tryz.prog w = .ok (decide (a0 = b0) && decide (a1 = b1) && decide (a2 = b2) && decide (a3 = b3)) w := by
  have u3 := Tryz.underlying3
  have g3 := Tryz.isAgg3
  have z3 := Tryz.sizeOf3
  rw [show (10000 : Nat) = 9999 + 1 from rfl, run_equalIn_array (P := Tryz.prog) w 9999 _ _ Tryz.underlying113 ti3]
  rw [show Tryz.prog.cellsOf 3 = 1 by kernel_rfl, show List.range 4 = [0, 1, 2, 3] from rfl]
  simp only [Op.eqItems]
  go_simp
  by_cases h0 : a0 = b0 <;> by_cases h1 : a1 = b1 <;> by_cases h2 : a2 = b2 <;> by_cases h3 : a3 = b3 <;> simp [h0, h1, h2, h3]
theorem chC_inj : ∀ {a b : List Int}, a.length = b.length → b.length ≤ 4 → ((decide (a.getD 0 0 = b.getD 0 0) && decide (a.getD 1 0 = b.getD 1 0) && decide (a.getD 2 0 = b.getD 2 0) && decide (a.getD 3 0 = b.getD 3 0)) = decide (a = b))
  | [], [], _, _ => by simp
  | [a], [b], _, _ => by simp
  | [a, a2], [b, b2], _, _ => by simp [Bool.and_assoc]
  | [a, a2, a3], [b, b2, b3], _, _ => by simp [Bool.and_assoc]
  | [a, a2, a3, a4], [b, b2, b3, b4], _, _ => by simp [Bool.and_assoc]
  | [], _ :: _, h, _ => by simp at h
  | _ :: _, [], h, _ => by simp at h
  | [_], _ :: _ :: _, h, _ => by simp at h
  | _ :: _ :: _, [_], h, _ => by simp at h
  | [_, _], _ :: _ :: _ :: _, h, _ => by simp at h
  | _ :: _ :: _ :: _, [_, _], h, _ => by simp at h
  | [_, _, _], _ :: _ :: _ :: _ :: _, h, _ => by simp at h
  | _ :: _ :: _ :: _ :: _, [_, _, _], h, _ => by simp at h
  | _, _ :: _ :: _ :: _ :: _ :: _, _, h => by simp at h
  | _ :: _ :: _ :: _ :: _ :: _, [_, _, _, _], h, _ => by simp at h
theorem neCh0 {x y : Operand} {t : TypeId} {a0 b0 a1 b1 a2 b2 a3 b3 : Int} (hx : ρ x = .agg #[.int .i64 a0, .int .i64 a1, .int .i64 a2, .int .i64 a3]) (hy : ρ y = .agg #[.int .i64 b0, .int .i64 b1, .int .i64 b2, .int .i64 b3]) : Y Tryz.prog ρ (.binOp .neq 113 x y t) ty w (.bool (!(decide (a0 = b0) && decide (a1 = b1) && decide (a2 = b2) && decide (a3 = b3)))) w := by
  have hg := run_eqGuard_agg (P := Tryz.prog) w .neq 113 x y #[.int .i64 a0, .int .i64 a1, .int .i64 a2, .int .i64 a3] #[.int .i64 b0, .int .i64 b1, .int .i64 b2, .int .i64 b3] (by kernel_rfl)
  have he := run_neq_struct (P := Tryz.prog) w 113 #[.int .i64 a0, .int .i64 a1, .int .i64 a2, .int .i64 a3] #[.int .i64 b0, .int .i64 b1, .int .i64 b2, .int .i64 b3]
  rw [eqInCh] at he
  simp only [Result.andThen_ok] at he
  simp [Y, xop, execOp, hx, hy, hg, he]
theorem neCh {x y : Operand} {t : TypeId} {a b : List Int} (hx : ρ x = .agg (chC a).toArray) (hy : ρ y = .agg (chC b).toArray) (hl : a.length = b.length) (h4 : b.length ≤ 4) : Y Tryz.prog ρ (.binOp .neq 113 x y t) ty w (.bool (decide (a ≠ b))) w :=
  Y.to (neCh0 hx hy) (by rw [chC_inj hl h4]; simp)
end Go.Proofs.YtgidbailiababaaGreatDoor
namespace Bx
open Go Go.RowKit
section
variable {w : World} {frm : Int} {B : TypeId} {v : Value} {bs : List Bo} {ms ls hs : List Value}
theorem bxCs_get : ∀ {cs : List (List Int)} {ms ls hs : List Value} {k : Nat}, k < cs.length → ms.length = cs.length → ls.length = cs.length → hs.length = cs.length → (bxCs frm cs ms ls hs)[k]? = some (bxC frm (cs.getD k []) (ms.getD k undef) (ls.getD k undef) (hs.getD k undef))
  | c :: cs, m :: ms, l :: ls, h :: hs, 0, _, _, _, _ => rfl
  | c :: cs, m :: ms, l :: ls, h :: hs, k + 1, hk, h1, h2, h3 => by
    show (bxCs frm cs ms ls hs)[k]? = _
    rw [bxCs_get (k := k) (by simpa using hk) (by simpa using h1) (by simpa using h2) (by simpa using h3)]
    rfl
  | [], _, _, _, _, hk, _, _, _ => by simp at hk
  | _ :: _, [], _, _, _, _, h, _, _ => by simp at h
  | _ :: _, _ :: _, [], _, _, _, _, h, _ => by simp at h
  | _ :: _, _ :: _, _ :: _, [], _, _, _, _, h => by simp at h
theorem bxCs_w {cs : List (List Int)} {ms ls hs : List Value} : ∀ x ∈ bxCs frm cs ms ls hs, x.length = 9 := by
  induction cs generalizing ms ls hs with
  | nil => intro x hx; cases ms <;> cases ls <;> cases hs <;> simp [bxCs] at hx
  | cons c cs ih => intro x hx; cases ms <;> cases ls <;> cases hs <;> simp only [bxCs, List.not_mem_nil, List.mem_cons] at hx; rcases hx with rfl | hx; rfl; exact ih x hx
theorem flatten_at {k : Nat} : ∀ {css : List (List Value)} {i : Nat} {cs : List Value}, (∀ x ∈ css, x.length = k) → css[i]? = some cs → ∀ j u, cs[j]? = some u → css.flatten[i * k + j]? = some u
  | c :: css, 0, cs, hw, h, j, u, hu => by
    obtain rfl : c = cs := by simpa using h
    have hj := (List.getElem?_eq_some_iff.1 hu).1
    rw [List.flatten_cons, Nat.zero_mul, Nat.zero_add, List.getElem?_append_left hj]; exact hu
  | c :: css, i + 1, cs, hw, h, j, u, hu => by
    have hc := hw c (List.mem_cons_self ..)
    rw [List.flatten_cons, List.getElem?_append_right (by rw [hc, Nat.succ_mul]; omega), show (i + 1) * k + j - c.length = i * k + j by rw [hc, Nat.succ_mul]; omega]
    exact flatten_at (fun x hx => hw x (List.mem_cons_of_mem _ hx)) (by simpa using h) j u hu
  | [], _, _, _, h, _, _, _ => by simp at h
theorem bx_cells {n cap : Nat} {a : Option Addr} (hrow : w.ownsRow 0 B 9 (.slice a n cap) n (bxCs frm (bs.map Bo.mem) ms ls hs).flatten) {k : Nat} (hk : k < bs.length) (hn : bs.length = n) (h1 : ms.length = bs.length) (h2 : ls.length = bs.length) (h3 : hs.length = bs.length) :
    ∃ g, a = some ⟨g, 0, none⟩ ∧ Cells w g (k * 9) (bxC frm (boxAt bs k).mem (ms.getD k undef) (ls.getD k undef) (hs.getD k undef)) := by
  obtain ⟨g, rfl, hc⟩ := row_get hrow (by omega)
  refine ⟨g, rfl, fun j u hu => ?_⟩
  have hg := bxCs_get (frm := frm) (cs := bs.map Bo.mem) (ms := ms) (ls := ls) (hs := hs) (k := k) (by simpa using hk) (by simpa using h1) (by simpa using h2) (by simpa using h3)
  have e : (bs.map Bo.mem).getD k [] = (boxAt bs k).mem := by
    unfold boxAt
    simp [List.getD, hk]
  rw [e] at hg
  have := hc _ _ (flatten_at bxCs_w hg j u hu)
  rwa [Nat.zero_add] at this
theorem in_sl {f : Bo → List Int} {vs : List Value} (hi : ∀ it ∈ inI vs (bs.map f), it.ok w) (hl : vs.length = bs.length) {k : Nat} (hk : k < bs.length) (hb : ∀ x ∈ f (boxAt bs k), I64 x) : Sl w 1 RInt (vs.getD k undef) (f (boxAt bs k)) := by
  have h1 : vs[k]? = some (vs.getD k undef) := by simp [List.getD, show k < vs.length by omega]
  have h2 : (bs.map f)[k]? = some (f (boxAt bs k)) := by rw [List.getElem?_map, boxAt_get hk]; rfl
  have h3 : w.ownsRow 0 3 1 (vs.getD k undef) (f (boxAt bs k)).length ((f (boxAt bs k)).flatMap encI) := hi _ (inI_get h1 h2)
  exact sl_ints h3 rfl hb
theorem bx_sl {n : Nat} (hrow : w.ownsRow 0 B 9 v n (bxCs frm (bs.map Bo.mem) ms ls hs).flatten) (hn : bs.length = n) (h1 : ms.length = bs.length) (h2 : ls.length = bs.length) (h3 : hs.length = bs.length) (hb : ∀ b ∈ bs, b.mem.length ≤ 4 ∧ (∀ x ∈ b.mem, I64 x) ∧ (∀ x ∈ lowB b, I64 x) ∧ ∀ x ∈ highB b, I64 x)
    (i1 : ∀ it ∈ inI ms (bs.map Bo.mem), it.ok w) (i2 : ∀ it ∈ inI ls (bs.map lowB), it.ok w) (i3 : ∀ it ∈ inI hs (bs.map highB), it.ok w) : Sl w 9 (RBx frm) v bs :=
  sl_of_row hrow (bxCs_rows h1 h2 h3 hb i1 i2 i3) hn
def keepK (all : List Bo) (k : Nat) : List Nat := (List.range k).filter fun i => !outBx all i (boxAt all i)
def posC (frm : Int) (all : List Bo) (hs : List Value) (k : Nat) : List Value := (keepK all k).flatMap fun i => [.int .i64 frm, hs.getD i undef]
theorem posK_eq (all : List Bo) (k : Nat) : posK all k = (keepK all k).map fun i => highB (boxAt all i) := rfl
theorem keepK_lt {all : List Bo} {k i : Nat} (h : i ∈ keepK all k) : i < k := List.mem_range.1 (List.mem_filter.1 h).1
theorem keepK_yes {all : List Bo} {k : Nat} (h : outBx all k (boxAt all k) = false) : keepK all (k + 1) = keepK all k ++ [k] := by
  unfold keepK
  rw [List.range_succ, List.filter_append]
  simp [h]
theorem keepK_no {all : List Bo} {k : Nat} (h : outBx all k (boxAt all k) = true) : keepK all (k + 1) = keepK all k := by
  unfold keepK
  rw [List.range_succ, List.filter_append]
  simp [h]
theorem posK_yes {all : List Bo} {k : Nat} (h : outBx all k (boxAt all k) = false) : (posK all (k + 1)).length = (posK all k).length + 1 := by rw [posK_eq, posK_eq, keepK_yes h]; simp
theorem posK_no {all : List Bo} {k : Nat} (h : outBx all k (boxAt all k) = true) : posK all (k + 1) = posK all k := by rw [posK_eq, posK_eq, keepK_no h]
theorem posC_yes {all : List Bo} {k : Nat} (h : outBx all k (boxAt all k) = false) : posC frm all hs (k + 1) = posC frm all hs k ++ [.int .i64 frm, hs.getD k undef] := by unfold posC; rw [keepK_yes h]; simp
theorem posC_no {all : List Bo} {k : Nat} (h : outBx all k (boxAt all k) = true) : posC frm all hs (k + 1) = posC frm all hs k := by unfold posC; rw [keepK_no h]
theorem posK_le {all : List Bo} {k : Nat} : (posK all k).length ≤ k := by
  rw [posK_eq, List.length_map]
  have := List.length_filter_le (fun i => !outBx all i (boxAt all i)) (List.range k)
  rwa [List.length_range] at this
theorem pos_sl {E : TypeId} {u : Value} {n : Nat} (hrow : w.ownsRow 0 E 2 u n (posC frm bs hs bs.length)) (hn : (posK bs bs.length).length = n) (hfr : I64 frm) (h3 : hs.length = bs.length) (hb : ∀ b ∈ bs, b.mem.length ≤ 4 ∧ (∀ x ∈ b.mem, I64 x) ∧ (∀ x ∈ lowB b, I64 x) ∧ ∀ x ∈ highB b, I64 x)
    (i3 : ∀ it ∈ inI hs (bs.map highB), it.ok w) : Sl w 2 RSer u ((posK bs bs.length).map (Ser.mk frm)) := by
  have key : ∀ is : List Nat, (∀ i ∈ is, i < bs.length) → Bx.Rows w 2 RSer (is.map fun i => [.int .i64 frm, hs.getD i undef]) ((is.map fun i => highB (boxAt bs i)).map (Ser.mk frm)) := by
    intro is
    induction is with
    | nil => intro _; trivial
    | cons i is ih =>
      intro h
      have hi := h i (List.mem_cons_self ..)
      refine ⟨rfl, ⟨_, rfl, hfr, in_sl i3 h3 hi (hb _ (List.mem_of_getElem? (boxAt_get hi))).2.2.2⟩, ih fun j hj => h j (List.mem_cons_of_mem _ hj)⟩
  have hflat : posC frm bs hs bs.length = ((keepK bs bs.length).map fun i => [Value.int .i64 frm, hs.getD i undef]).flatten := by unfold posC; rw [List.flatMap_def]
  rw [hflat] at hrow
  exact sl_of_row hrow (key _ fun i hi => keepK_lt hi) (by rw [List.length_map]; exact hn)
end
end Bx

/- part Sx2 -/
namespace Go.Proofs.YtgidbailiababaaGreatDoor
open Go Bx Go.Proofs.Tryz
set_option maxHeartbeats 1000000 in
theorem c_below {f1 f2 : Int} {va vb : Value} {a b : List Int} {w0 : World} (ha : Sl w0 1 RInt va a) (hb : Sl w0 1 RInt vb b) (hl : a.length = b.length) : CV Tryz.prog 126 #[.agg [.int .i64 f1, va].toArray, .agg [.int .i64 f2, vb].toArray] w0 (.bool (belowB a b)) := by
 obtain ⟨aa, ca, rfl, hacap, hamx, -⟩ := id ha
 obtain ⟨ab, cb, rfl, -⟩ := id hb
 refine enter func126 rfl ntmps126 rfl ?_
 have hS := St.start w0
 refine seq <| region ?_
 refine sbox hS rfl rfl ?_; clear hS; intro b2 w hS
 refine sbox hS rfl rfl ?_; clear hS; intro b3 w hS
 refine sv (yAsg rfl) <| nil <| cwQ <| seq <| seq <| region <| sv (fa41_1 rfl) <| sv (yLdB rfl isAgg39 (hS.at _) rfl) <| sv (yLen rfl underlying39) ?_
 refine sv (yMove rfl) <| nil <| cwQ <| block <| loop (fun f w zz => ∃ (k : Nat), f 3 = ptQ b3 ∧ f 8 = .slice aa a.length ca ∧ f 9 = .int .i64 (a.length : Int) ∧ f 10 = .int .i64 (k : Int) ∧ StX [] w0 w [blk b3 [.int .i64 f2, .slice ab b.length cb] 41, blk b2 [.int .i64 f1, .slice aa a.length ca] 41] ∧ (k ≤ a.length) ∧ (∀ i, i < k → a.getD i 0 ≤ b.getD i 0) ∧ zz = a.length - k) _ ⟨_, rfl, 0, rfl, rfl, rfl, rfl, hS, (Nat.zero_le _), (fun i hi => absurd hi (Nat.not_lt_zero _)), rfl⟩ ?_
 clear hS
 rintro f w _ ⟨k, h3, h8, h9, h10, hS, hk, hA, rfl⟩
 refine seq <| region <| sv (yLss h10 h9) <| nil <| cwQ <| seq ?_
 refine cond rfl (fun c11 => ?_) (fun c11 => ?_)
 ·
  simp only [BS, ne_eq] at c11
  have hkl : k < a.length := by omega
  obtain ⟨bx, ox, cx, hax, hlx, hcx, hRx, -⟩ := sl_at ha (show a[k]? = some (a.getD k 0) by simp [hkl])
  obtain ⟨rfl, -⟩ := hRx
  obtain ⟨by0, oy, cy, hay, hly, hcy, hRy, -⟩ := sl_at hb (show b[k]? = some (b.getD k 0) by simp [show k < b.length by omega])
  obtain ⟨rfl, -⟩ := hRy
  refine skip <| cwQ <| seq <| block <| seq <| region <| sv (yMove h10) <| sv (yIxQ h8 hax h10 runUnderlying39 sizeOf3) <| sv (yLd rfl isAgg3 (hcx.ext hS.ext).one) ?_
  refine sv (yAsg rfl) <| sv (yAsg rfl) <| nil <| cwQ <| seq <| region <| sv (yMove rfl) <| sv (fa41_1 h3) <| sv (yLdB rfl isAgg39 (hS.at _) rfl) ?_
  refine sv (yMove rfl) <| sv (yIxQ rfl hay rfl runUnderlying39 sizeOf3) <| sv (yLd rfl isAgg3 (hcy.ext hS.ext).one) <| sv (yGtr rfl rfl) <| nil <| cwQ ?_
  refine cond rfl (fun c21 => ?_) (fun c21 => ?_)
  ·
   simp only [BS, ne_eq] at c21
   refine seq <| region <| sv (yAsg rfl) <| nil <| cwQ ?_
   refine wp_ret (blockR (thenR (thenR (blockR (thenR ?_)))))
   exact retV (res1 rfl (congrArg Value.bool (show false = belowB a b from ((Bool.eq_false_iff).2 (fun hh => by have := belowB_iff.1 hh k hkl; omega)).symm))) hS.ext
  ·
   simp only [BS, ne_eq] at c21
   refine skip <| cwQ <| region <| sv (yAdd h10 rfl ⟨by omega, by omega⟩) <| sv (yMove rfl) <| nil ?_
   exact ⟨_, _, rfl, ⟨k + 1, h3, h8, h9, rfl, hS, (by omega), (fun i hi => by by_cases e : i = k; subst e; omega; exact hA i (by omega)), rfl⟩, by omega⟩
 ·
  simp only [BS, ne_eq] at c11
  obtain rfl : k = a.length := by omega
  refine exit <| cwQ <| seq <| region <| sv (yAsg rfl) <| nil <| cwQ <| wp_ret ?_
  exact retV (res1 rfl (congrArg Value.bool (show true = belowB a b from (belowB_iff.2 hA).symm))) hS.ext
set_option maxHeartbeats 1000000 in
theorem c_EqualI {va vb : Value} {a b : List Int} {w0 : World} (ha : Sl w0 1 RInt va a) (hb : Sl w0 1 RInt vb b) : CV Tryz.prog 128 #[va, vb] w0 (.bool (decide (a = b))) := by
 obtain ⟨aa, ca, rfl, hacap, hamx, -⟩ := id ha
 obtain ⟨ab, cb, rfl, -⟩ := id hb
 refine enter func128 rfl ntmps128 rfl ?_
 have hS := St.start w0
 refine seq <| region <| sv (yAsg rfl) <| nil <| cwQ <| seq <| seq <| region <| sv (yMove rfl) ?_
 refine sv (yLen rfl underlying39) <| sv (yMove rfl) <| sv (yLen rfl underlying39) <| sv (yNeq rfl rfl) <| nil <| cwQ ?_
 refine cond rfl (fun c10 => ?_) (fun c10 => ?_)
 ·
  simp only [BS, ne_eq] at c10
  refine seq <| region <| sv (yAsg rfl) <| nil <| cwQ ?_
  refine wp_ret (thenR ?_)
  exact retV (res1 rfl (congrArg Value.bool (show false = decide (a = b) from (decide_eq_false (fun e => by rw [e] at c10; exact c10 rfl)).symm))) hS.ext
 ·
  simp only [BS, ne_eq] at c10
  have hl : a.length = b.length := by omega
  refine skip <| cwQ <| seq <| seq <| region <| sv (yMove rfl) <| sv (yLen rfl underlying39) <| sv (yMove rfl) <| nil ?_
  refine cwQ <| block <| loop (fun f w zz => ∃ (k : Nat), f 0 = .slice aa a.length ca ∧ f 1 = .slice ab b.length cb ∧ f 12 = .int .i64 (a.length : Int) ∧ f 13 = .int .i64 (k : Int) ∧ StX [] w0 w [] ∧ (k ≤ a.length) ∧ (∀ i, i < k → a[i]? = b[i]?) ∧ zz = a.length - k) _ ⟨_, rfl, 0, rfl, rfl, rfl, rfl, hS, (Nat.zero_le _), (fun i hi => absurd hi (Nat.not_lt_zero _)), rfl⟩ ?_
  clear hS
  rintro f w _ ⟨k, h0, h1, h12, h13, hS, hk, hA, rfl⟩
  refine seq <| region <| sv (yLss h13 h12) <| nil <| cwQ <| seq ?_
  refine cond rfl (fun c14 => ?_) (fun c14 => ?_)
  ·
   simp only [BS, ne_eq] at c14
   have hkl : k < a.length := by omega
   obtain ⟨bx, ox, cx, hax, hlx, hcx, hRx, -⟩ := sl_at ha (show a[k]? = some (a.getD k 0) by simp [hkl])
   obtain ⟨rfl, -⟩ := hRx
   obtain ⟨by0, oy, cy, hay, hly, hcy, hRy, -⟩ := sl_at hb (show b[k]? = some (b.getD k 0) by simp [show k < b.length by omega])
   obtain ⟨rfl, -⟩ := hRy
   refine skip <| cwQ <| seq <| block <| seq <| region <| sv (yMove h13) <| sv (yAsg rfl) <| nil ?_
   refine cwQ <| seq <| region_draw mixed (by kernel_rfl) hS <| qv (fun w hS => (yMove h0)) <| qv (fun w hS => (yMove rfl)) <| qv (fun w hS => (yIxQ rfl hax rfl runUnderlying39 sizeOf3)) <| qv (fun w hS => (yLd rfl isAgg3 (hcx.ext hS.ext).one)) <| qv (fun w hS => (yMove h1)) <| qv (fun w hS => (yMove rfl)) ?_
   refine qv (fun w hS => (yIxQ rfl hay rfl runUnderlying39 sizeOf3)) <| qv (fun w hS => (yLd rfl isAgg3 (hcy.ext hS.ext).one)) <| qv (fun w hS => (yNeq rfl rfl)) ?_
   clear hS; refine qnil (fun w hS => ?_)
   refine cwQ ?_
   refine cond rfl (fun c24 => ?_) (fun c24 => ?_)
   ·
    simp only [BS, ne_eq] at c24
    refine seq <| region <| sv (yAsg rfl) <| nil <| cwQ ?_
    refine wp_ret (blockR (thenR (thenR (blockR (thenR ?_)))))
    exact retV (res1 rfl (congrArg Value.bool (show false = decide (a = b) from (decide_eq_false (fun e => by rw [e] at c24; exact c24 rfl)).symm))) hS.ext
   ·
    simp only [BS, ne_eq] at c24
    refine skip <| cwQ <| region <| sv (yAdd h13 rfl ⟨by omega, by omega⟩) <| sv (yMove rfl) <| nil ?_
    exact ⟨_, _, rfl, ⟨k + 1, h0, h1, h12, rfl, hS, (by omega), (fun i hi => by
     by_cases e : i = k
     ·
      subst e
      rw [List.getElem?_eq_getElem hkl, List.getElem?_eq_getElem (show i < b.length by omega)]
      have e1 : a.getD i 0 = a[i] := by simp [hkl]
      have e2 : b.getD i 0 = b[i] := by simp [show i < b.length by omega]
      congr 1; omega
     ·
      exact hA i (by omega)), rfl⟩, by omega⟩
  ·
   simp only [BS, ne_eq] at c14
   obtain rfl : k = a.length := by omega
   refine exit <| cwQ <| seq <| region <| sv (yAsg rfl) <| nil <| cwQ <| wp_ret ?_
   exact retV (res1 rfl (congrArg Value.bool (show true = decide (a = b) from (decide_eq_true (eq_of_get hl hA)).symm))) hS.ext
set_option maxHeartbeats 2000000 in
theorem c_clo1 {frm : Int} {x bb : Bo} {m l h m2 l2 h2 : Value} {b5 : Nat} {w0 : World} (hb5 : w0.heap[b5]? = some (.cells (bxC frm bb.mem m2 l2 h2).toArray 115 (0, 0))) (hml : x.mem.length = bb.mem.length) (hm4 : bb.mem.length ≤ 4) (hhx : Sl w0 1 RInt h (highB x)) (hhb : Sl w0 1 RInt h2 (highB bb)) (hln : (highB x).length = (highB bb).length) : CV Tryz.prog 125 #[.agg (bxC frm x.mem m l h).toArray, ptQ b5] w0 (.bool ((decide (x.mem ≠ bb.mem) && belowB (highB bb) (highB x)) && !belowB (highB x) (highB bb))) := by
 refine enter func125 rfl ntmps125 rfl ?_
 have hS := St.start w0
 refine seq <| region ?_
 refine sbox hS rfl rfl ?_; clear hS; intro b2 w hS
 refine sv (yAsg rfl) <| nil <| cwQ <| seq <| region <| sv (fa115_0 rfl) <| sv (yLdBA rfl isAgg113 sizeOf113 (hS.at _) rfl rfl) <| sv (fa115_0 rfl) <| sv (yLdBA rfl isAgg113 sizeOf113 (hS.ext.get hb5) rfl rfl) ?_
 refine sv (neCh rfl rfl hml hm4) <| sv (yMove rfl) ?_
 refine sg rfl rfl rfl (fun g => (fa115_1 rfl)) (fun v10 g10 => ?_)
 refine sg rfl rfl rfl (fun g => (fa43_2 (g10.1 g))) (fun v11 g11 => ?_)
 refine sg rfl rfl rfl (fun g => (yLdBA (g11.1 g) isAgg41 sizeOf41 (hS.ext.get hb5) rfl rfl)) (fun v12 g12 => ?_)
 refine sg rfl rfl rfl (fun g => (fa115_1 rfl)) (fun v13 g13 => ?_)
 refine sg rfl rfl rfl (fun g => (fa43_2 (g13.1 g))) (fun v14 g14 => ?_)
 refine sg rfl rfl rfl (fun g => (yLdBA (g14.1 g) isAgg41 sizeOf41 (hS.at _) rfl rfl)) (fun v15 g15 => ?_)
 refine sgc hS rfl rfl rfl call126 (fun g => (.cons (g12.1 g) (.cons (g15.1 g) .nil))) (fun g => (c_below (hhb.ext RInt.stays hS.ext) (hhx.ext RInt.stays hS.ext) hln.symm)) ?_; clear hS; intro v16 w hS g16
 refine sv (yAnd rfl (fun hB => (g16.1 hB)) rfl) <| sv (yMove rfl) ?_
 refine sg rfl rfl rfl (fun g => (fa115_1 rfl)) (fun v19 g19 => ?_)
 refine sg rfl rfl rfl (fun g => (fa43_2 (g19.1 g))) (fun v20 g20 => ?_)
 refine sg rfl rfl rfl (fun g => (yLdBA (g20.1 g) isAgg41 sizeOf41 (hS.at _) rfl rfl)) (fun v21 g21 => ?_)
 refine sg rfl rfl rfl (fun g => (fa115_1 rfl)) (fun v22 g22 => ?_)
 refine sg rfl rfl rfl (fun g => (fa43_2 (g22.1 g))) (fun v23 g23 => ?_)
 refine sg rfl rfl rfl (fun g => (yLdBA (g23.1 g) isAgg41 sizeOf41 (hS.ext.get hb5) rfl rfl)) (fun v24 g24 => ?_)
 refine sgc hS rfl rfl rfl call126 (fun g => (.cons (g21.1 g) (.cons (g24.1 g) .nil))) (fun g => (c_below (hhx.ext RInt.stays hS.ext) (hhb.ext RInt.stays hS.ext) hln)) ?_; clear hS; intro v25 w hS g25
 refine sg rfl rfl rfl (fun g => (yNot (g25.1 g))) (fun v26 g26 => ?_)
 refine sv (yAnd rfl (fun hB => (g26.1 hB)) rfl) <| sv (yAsg rfl) <| nil <| cwQ <| wp_ret ?_
 exact retV (res1 rfl rfl) hS.ext
set_option maxHeartbeats 2000000 in
theorem c_clo2 {frm : Int} {x bb : Bo} {m l h m2 l2 h2 : Value} {b5 : Nat} {w0 : World} (hb5 : w0.heap[b5]? = some (.cells (bxC frm bb.mem m2 l2 h2).toArray 115 (0, 0))) (hml : x.mem.length = bb.mem.length) (hm4 : bb.mem.length ≤ 4) (hhx : Sl w0 1 RInt h (highB x)) (hhb : Sl w0 1 RInt h2 (highB bb)) (hln : (highB x).length = (highB bb).length) : CV Tryz.prog 127 #[.agg (bxC frm x.mem m l h).toArray, ptQ b5] w0 (.bool (decide (highB x = highB bb))) := by
 refine enter func127 rfl ntmps127 rfl ?_
 have hS := St.start w0
 refine seq <| region ?_
 refine sbox hS rfl rfl ?_; clear hS; intro b2 w hS
 refine sv (yAsg rfl) <| nil <| cwQ <| seq <| region <| sv (fa115_1 rfl) <| sv (fa43_2 rfl) <| sv (fa41_1 rfl) <| sv (yLdB rfl isAgg39 (hS.at _) rfl) ?_
 refine sv (fa115_1 rfl) <| sv (fa43_2 rfl) <| sv (fa41_1 rfl) <| sv (yLdB rfl isAgg39 (hS.ext.get hb5) rfl) ?_
 refine scV hS call128 (.cons rfl (.cons rfl .nil)) (c_EqualI (hhx.ext RInt.stays hS.ext) (hhb.ext RInt.stays hS.ext)) ?_; clear hS; intro w hS
 refine sv (yAsg rfl) <| nil <| cwQ <| wp_ret ?_
 exact retV (res1 rfl rfl) hS.ext
theorem c_IndexBox {frm : Int} {l : List Bo} {p : Bo → Bool} {v : Value} {g : Nat} {cl : List Value} {w0 : World} (hsl : Sl w0 9 (RBx frm) v l) (hcall : ∀ ys w, (callFunc g ys).run Tryz.prog w = .ok (.enter g ys) w) (hp : ∀ x cs w, x ∈ l → Ext w0 w → (RBx frm) w cs x → CV Tryz.prog g (.agg cs.toArray :: cl).toArray w (.bool (p x))) : CV Tryz.prog 169 #[v, .func (.func g) #[] cl.toArray] w0 (.int .i64 (idxF p l 0)) := by
 obtain ⟨a, cap, rfl, hcap, hmx, hel⟩ := hsl
 refine enter func169 rfl ntmps169 rfl ?_
 have hS := St.start w0
 refine seq <| region <| sv (yAsg rfl) <| nil <| cwQ <| seq <| seq <| region <| sv (yMove rfl) ?_
 refine sv (yLen rfl underlying110) <| sv (yMove rfl) <| nil <| cwQ <| block <| loop (fun f w zz => ∃ (k : Nat), f 0 = .slice a l.length cap ∧ f 1 = .func (.func g) #[] cl.toArray ∧ f 7 = .int .i64 (l.length : Int) ∧ f 8 = .int .i64 (k : Int) ∧ StX [] w0 w [] ∧ (k ≤ l.length) ∧ (idxF p l 0 = idxF p (l.drop k) k) ∧ zz = l.length - k) _ ⟨_, rfl, 0, rfl, rfl, rfl, rfl, hS, (Nat.zero_le _), (rfl), rfl⟩ ?_
 clear hS
 rintro f w _ ⟨k, h0, h1, h7, h8, hS, hk, hI, rfl⟩
 refine seq <| region <| sv (yLss h8 h7) <| nil <| cwQ <| seq ?_
 refine cond rfl (fun c9 => ?_) (fun c9 => ?_)
 ·
  simp only [BS, ne_eq] at c9
  refine skip <| cwQ <| seq <| block <| seq <| region <| sv (yMove h8) <| sv (yAsg rfl) <| nil ?_
  refine cwQ <| seq <| region ?_
  obtain ⟨x, hx, hd⟩ := drop_of (l := l) (k := k) (by omega)
  obtain ⟨b, o, cs, ha, hlen, hcs, hR⟩ := hel k (by omega)
  obtain rfl : x = l[k] := (List.getElem?_eq_some_iff.1 hx).2.symm
  refine sv (yMove h1) <| sv (yMove h0) <| sv (yMove rfl) <| sv (yIxQ rfl ha rfl runUnderlying110 sizeOf115) <| sv (yLdA rfl isAgg115 sizeOf115 (hcs.ext hS.ext) hlen) ?_
  refine scallf rfl hcall (.cons rfl .nil) (hp _ _ _ (List.getElem_mem _) hS.ext (RBx.stays frm _ _ _ _ hS.ext hR)) ?_
  rintro _ w ⟨rfl, hE⟩; replace hS := hS.step hE; clear hE
  refine nil <| cwQ ?_
  refine cond rfl (fun c16 => ?_) (fun c16 => ?_)
  ·
   refine seq <| region <| sv (yMove rfl) <| sv (yAsg rfl) <| nil <| cwQ ?_
   refine wp_ret (blockR (thenR (thenR (blockR (thenR ?_)))))
   exact retV (res1 rfl (by rw [hI, hd, idxF, if_pos c16]; rfl)) hS.ext
  ·
   refine skip <| cwQ <| region <| sv (yAdd h8 rfl ⟨by omega, by omega⟩) <| sv (yMove rfl) <| nil ?_
   exact ⟨_, _, rfl, ⟨k + 1, h0, h1, h7, rfl, hS, (by omega), (by rw [hI, hd, idxF, if_neg (by simp [c16])]; rfl), rfl⟩, by omega⟩
 ·
  simp only [BS, ne_eq] at c9
  refine exit <| cwQ <| seq <| region <| sv (yAsg rfl) <| nil <| cwQ ?_
  obtain rfl : k = l.length := by omega
  refine wp_ret ?_
  exact retV (res1 rfl (by rw [hI, List.drop_length]; rfl)) hS.ext
theorem c_ContainsBox {frm : Int} {l : List Bo} {p : Bo → Bool} {v : Value} {g : Nat} {cl : List Value} {w0 : World} (hsl : Sl w0 9 (RBx frm) v l) (hcall : ∀ ys w, (callFunc g ys).run Tryz.prog w = .ok (.enter g ys) w) (hp : ∀ x cs w, x ∈ l → Ext w0 w → (RBx frm) w cs x → CV Tryz.prog g (.agg cs.toArray :: cl).toArray w (.bool (p x))) : CV Tryz.prog 124 #[v, .func (.func g) #[] cl.toArray] w0 (.bool (l.any p)) := by
 refine enter func124 rfl ntmps124 rfl ?_
 have hS := St.start w0
 refine seq <| region <| sv (yAsg rfl) <| nil <| cwQ <| seq <| region <| sv (yMove rfl) <| sv (yMove rfl) ?_
 refine scV hS call169 (.cons rfl (.cons rfl .nil)) (c_IndexBox hsl hcall hp) ?_; clear hS; intro w hS
 refine sv (yGeq rfl rfl) <| sv (yAsg rfl) <| nil <| cwQ <| wp_ret ?_
 exact retV (res1 rfl (by rw [← idxF_any p l 0 (Int.le_refl 0)]; rfl)) hS.ext
end Go.Proofs.YtgidbailiababaaGreatDoor

/- part S16 -/
namespace Bx
open Go Go.RowKit
section
variable {w : World} {frm : Int} {B : TypeId} {bs : List Bo} {ms ls hs : List Value}
theorem bx_at {n cap : Nat} {a : Option Addr} (hrow : w.ownsRow 0 B 9 (.slice a n cap) n (bxCs frm (bs.map Bo.mem) ms ls hs).flatten) {k : Nat} (hk : k < bs.length) (hn : bs.length = n) (h1 : ms.length = bs.length) (h2 : ls.length = bs.length) (h3 : hs.length = bs.length) (hb : ∀ b ∈ bs, b.mem.length ≤ 4 ∧ (∀ x ∈ b.mem, I64 x) ∧ (∀ x ∈ lowB b, I64 x) ∧ ∀ x ∈ highB b, I64 x)
    (i1 : ∀ it ∈ inI ms (bs.map Bo.mem), it.ok w) (i2 : ∀ it ∈ inI ls (bs.map lowB), it.ok w) (i3 : ∀ it ∈ inI hs (bs.map highB), it.ok w) :
    ∃ g am cm al cl ah ch, a = some ⟨g, 0, none⟩ ∧ Cells w g (0 + k * 9) (bxC frm (boxAt bs k).mem (.slice am (boxAt bs k).mem.length cm) (.slice al (lowB (boxAt bs k)).length cl) (.slice ah (highB (boxAt bs k)).length ch)) ∧ (ms.getD k undef = .slice am (boxAt bs k).mem.length cm ∧ ls.getD k undef = .slice al (lowB (boxAt bs k)).length cl ∧ hs.getD k undef = .slice ah (highB (boxAt bs k)).length ch) ∧
      Sl w 1 RInt (.slice am (boxAt bs k).mem.length cm) (boxAt bs k).mem ∧ Sl w 1 RInt (.slice al (lowB (boxAt bs k)).length cl) (lowB (boxAt bs k)) ∧ Sl w 1 RInt (.slice ah (highB (boxAt bs k)).length ch) (highB (boxAt bs k)) := by
  obtain ⟨g, rfl, hc⟩ := bx_cells hrow hk hn h1 h2 h3
  have hbk := hb _ (List.mem_of_getElem? (boxAt_get hk))
  have s1 := in_sl (f := Bo.mem) i1 h1 hk hbk.2.1
  have s2 := in_sl (f := lowB) i2 h2 hk hbk.2.2.1
  have s3 := in_sl (f := highB) i3 h3 hk hbk.2.2.2
  obtain ⟨am, cm, e1, -⟩ := id s1
  obtain ⟨al, cl, e2, -⟩ := id s2
  obtain ⟨ah, ch, e3, -⟩ := id s3
  rw [e1] at s1
  rw [e2] at s2
  rw [e3] at s3
  rw [e1, e2, e3, ← Nat.zero_add (k * 9)] at hc
  exact ⟨g, am, cm, al, cl, ah, ch, rfl, hc, ⟨e1, e2, e3⟩, s1, s2, s3⟩
theorem out_no {all : List Bo} {i : Nat} {b : Bo} (h : ((!(all.any fun x => (decide (x.mem ≠ b.mem) && belowB (highB b) (highB x)) && !belowB (highB x) (highB b))) && !((all.take i).any fun x => decide (highB x = highB b))) = true) : outBx all i b = false := by
  unfold outBx
  simp only [Bool.and_eq_true, Bool.not_eq_true'] at h
  rw [h.1, h.2]; rfl
theorem out_yes {all : List Bo} {i : Nat} {b : Bo} (h : ¬ ((!(all.any fun x => (decide (x.mem ≠ b.mem) && belowB (highB b) (highB x)) && !belowB (highB x) (highB b))) && !((all.take i).any fun x => decide (highB x = highB b))) = true) : outBx all i b = true := by
  cases hc : outBx all i b with
  | true => rfl
  | false =>
    exfalso; apply h
    unfold outBx at hc
    simp only [Bool.or_eq_false_iff] at hc
    rw [hc.1, hc.2]; rfl
theorem pos_el {E : TypeId} {i : Nat} (hi : i < (posK bs bs.length).length) (h3 : hs.length = bs.length) (hb : ∀ b ∈ bs, b.mem.length ≤ 4 ∧ (∀ x ∈ b.mem, I64 x) ∧ (∀ x ∈ lowB b, I64 x) ∧ ∀ x ∈ highB b, I64 x) : ∃ vi, ∀ (w2 : World) (u : Value), w2.ownsRow 0 E 2 u (posK bs bs.length).length (posC frm bs hs bs.length) → (∀ it ∈ inI hs (bs.map highB), it.ok w2) →
    (∃ g cap, u = .slice (some ⟨g, 0, none⟩) (posK bs bs.length).length cap ∧ Cells w2 g (0 + i * 2) [.int .i64 frm, vi]) ∧ Sl w2 1 RInt vi ((posK bs bs.length).getD i []) := by
  have hl : (posK bs bs.length).length = (keepK bs bs.length).length := by rw [posK_eq, List.length_map]
  have hk : (keepK bs bs.length)[i]? = some ((keepK bs bs.length).getD i 0) := by simp [List.getD, show i < (keepK bs bs.length).length by omega]
  have hj := keepK_lt (List.mem_of_getElem? hk)
  have he : (posK bs bs.length).getD i [] = highB (boxAt bs ((keepK bs bs.length).getD i 0)) := by
    rw [posK_eq, List.getD_eq_getElem?_getD, List.getElem?_map, hk]; rfl
  refine ⟨hs.getD ((keepK bs bs.length).getD i 0) undef, fun w2 u hrow h4 => ⟨?_, ?_⟩⟩
  · obtain ⟨g, cap, hu, -, -, hc⟩ := row_some hrow (by omega)
    refine ⟨g, cap, hu, fun q x hq => ?_⟩
    have hf : posC frm bs hs bs.length = ((keepK bs bs.length).map fun i => [Value.int .i64 frm, hs.getD i undef]).flatten := by unfold posC; rw [List.flatMap_def]
    have := hc _ _ (by rw [hf]; exact flatten_at (k := 2) (fun x hx => by obtain ⟨j, -, rfl⟩ := List.mem_map.1 hx; rfl) (by rw [List.getElem?_map, hk]; rfl) q x hq)
    rw [Nat.zero_add] at this
    rwa [Nat.zero_add]
  · rw [he]
    exact in_sl h4 h3 hj (hb _ (List.mem_of_getElem? (boxAt_get hj))).2.2.2
end
end Bx

/- part Sx3 -/
namespace Go.Proofs.YtgidbailiababaaGreatDoor
open Go Bx Go.Proofs.Tryz
set_option maxHeartbeats 4000000 in
theorem c_possible {t : Sgt} {now : Int} {cv ov : Value} {ag ak ae aw ax : Option Addr} {cg ck ce cw cx bk mo : Nat} {os : List Span} {w0 w : World} {L9 : List Bx.Item} (h : RSgt w0 (scQ t cv ag ak ae cg ck ce) t) (hok : SgOk t) (hnow : Bd now 0 200000) (hg : Glb w0) (hown : (os = [] ∧ mo = 0 ∧ ov = .slice none 0 0) ∨ (os = baseS t now ∧ mo = t.ticks.toNat)) (hS : StX [] w0 w (blk bk (knQ t now cv ag ak ae cg ck ce aw cw ax cx ov) 123 :: rowI (ov) 74 2 mo ((os).flatMap spanC) :: rowI (.slice aw t.ticks.toNat cw) 74 2 t.ticks.toNat ((tidesS t).flatMap spanC) :: rowI (.slice ax t.ctrs.length cx) 3 1 t.ctrs.length ((curS t now).flatMap Bx.encI) :: L9)) : CE Tryz.prog 67 #[ptQ bk] w (fun u w' => ∃ ov' its, (∀ w2 : World, (∀ it ∈ its, it.ok w2) → Sl w2 2 RSer u ((posS t now).map (Ser.mk t.frm))) ∧ (∀ i, i < (posS t now).length → ∃ vi, ∀ w2 : World, (∀ it ∈ its, it.ok w2) → (∃ g cap, u = .slice (some ⟨g, 0, none⟩) (posS t now).length cap ∧ Cells w2 g (0 + i * 2) [.int .i64 t.frm, vi]) ∧ Sl w2 1 RInt vi ((posS t now).getD i [])) ∧ StX [] w0 w' (packI its :: blk bk (knQ t now cv ag ak ae cg ck ce aw cw ax cx ov') 123 :: rowI (ov') 74 2 t.ticks.toNat ((baseS t now).flatMap spanC) :: rowI (.slice aw t.ticks.toNat cw) 74 2 t.ticks.toNat ((tidesS t).flatMap spanC) :: rowI (.slice ax t.ctrs.length cx) 3 1 t.ctrs.length ((curS t now).flatMap Bx.encI) :: L9)) := by
 obtain ⟨hT, hG, hw64, hf64, hk64, hC, hF, hl64, hm64, hr64, hq64⟩ := RSgt.parts h
 refine enter func67 rfl ntmps67 rfl ?_
 skip
 refine seq <| region <| sv (yAsg rfl) <| nil <| cwQ <| seq <| region <| sv (yMove rfl) ?_
 refine scall call64 (.cons rfl .nil) (c_boxes h hok hnow hg hown hS) ?_
 rintro bv w ⟨ov', ms, ls, hs, hl1, hl2, hl3, hM⟩; clear hS; have hS := hM; clear hM
 obtain ⟨av, cv2, rfl⟩ := row_shape (hS.row bv)
 have hbn : (boxS t now).length ≤ 625 := Nat.le_trans boxL_len (cho_bd hok)
 refine sv (yAsg rfl) <| nil <| cwQ <| seq <| seq <| region <| sv (yMove rfl) <| sv (yLen rfl underlying110) <| sv (yMove rfl) ?_
 refine nil <| cwQ <| block <| loop (fun f w zz => ∃ (k : Nat) (pv : Value), f 2 = pv ∧ f 3 = .slice av (boxS t now).length cv2 ∧ f 8 = .slice av (boxS t now).length cv2 ∧ f 9 = .int .i64 ((boxS t now).length : Int) ∧ f 10 = .int .i64 (k : Int) ∧ StX [] w0 w (rowI pv 41 2 (posK (boxS t now) k).length (posC t.frm (boxS t now) hs k) :: rowI (.slice av (boxS t now).length cv2) 115 9 (boxS t now).length (bxCs t.frm ((boxS t now).map Bo.mem) ms ls hs).flatten :: packI (inI ms ((boxS t now).map Bo.mem)) :: packI (inI ls ((boxS t now).map lowB)) :: packI (inI hs ((boxS t now).map highB)) :: blk bk (knQ t now cv ag ak ae cg ck ce aw cw ax cx ov') 123 :: rowI (ov') 74 2 t.ticks.toNat ((baseS t now).flatMap spanC) :: rowI (.slice aw t.ticks.toNat cw) 74 2 t.ticks.toNat ((tidesS t).flatMap spanC) :: rowI (.slice ax t.ctrs.length cx) 3 1 t.ctrs.length ((curS t now).flatMap Bx.encI) :: L9) ∧ (k ≤ (boxS t now).length) ∧ zz = (boxS t now).length - k) _ ⟨_, rfl, 0, _, rfl, rfl, rfl, rfl, rfl, (hS.nilrow 41 2), (Nat.zero_le _), rfl⟩ ?_
 clear hS
 rintro f w _ ⟨k, pv, h2, h3, h8, h9, h10, hS, hk, rfl⟩
 refine seq <| region <| sv (yLss h10 h9) <| nil <| cwQ <| seq ?_
 refine cond rfl (fun c11 => ?_) (fun c11 => ?_)
 ·
  simp only [BS, ne_eq] at c11
  have hkn : k < (boxS t now).length := by omega
  obtain ⟨gb, am, cm, al, cl, ah, ch, hgb, hcb, hes, -, -, hsh0⟩ := (bx_at (hS.row (.slice av (boxS t now).length cv2)) hkn rfl hl1 hl2 hl3 (fun b hb => box_ok hok hb) (hS.ok (packI (inI ms ((boxS t now).map Bo.mem))) (by simp)) (hS.ok (packI (inI ls ((boxS t now).map lowB))) (by simp)) (hS.ok (packI (inI hs ((boxS t now).map highB))) (by simp)))
  have hpl : (posK (boxS t now) k).length ≤ k := posK_le
  have hbk : (boxAt (boxS t now) k) ∈ boxS t now := List.mem_of_getElem? (boxAt_get hkn)
  have hB0 := (bx_sl (hS.row (.slice av (boxS t now).length cv2)) rfl hl1 hl2 hl3 (fun b hb => box_ok hok hb) (hS.ok (packI (inI ms ((boxS t now).map Bo.mem))) (by simp)) (hS.ok (packI (inI ls ((boxS t now).map lowB))) (by simp)) (hS.ok (packI (inI hs ((boxS t now).map highB))) (by simp)))
  obtain ⟨_, _, heq, hbc, hbm, -⟩ := id hB0
  cases heq
  refine skip <| cwQ <| seq <| block <| seq <| region <| sv (yMove h10) <| sv (yIxQ h8 hgb h10 runUnderlying110 sizeOf115) <| sv (yLdA rfl isAgg115 sizeOf115 hcb rfl) ?_
  refine salloc hS zeroValue115 rfl ?_; clear hS; intro b5 w hS
  refine sv (yAsg rfl) ?_
  refine sst hS rfl rfl sizeOf115 rfl rfl rfl rfl ?_; clear hS; intro w hS
  refine nil <| cwQ <| seq <| region ?_
  have hB := (bx_sl (hS.row (.slice av (boxS t now).length cv2)) rfl hl1 hl2 hl3 (fun b hb => box_ok hok hb) (hS.ok (packI (inI ms ((boxS t now).map Bo.mem))) (by simp)) (hS.ok (packI (inI ls ((boxS t now).map lowB))) (by simp)) (hS.ok (packI (inI hs ((boxS t now).map highB))) (by simp)))
  have hsh := in_sl (f := highB) (bs := boxS t now) (k := k) (hS.ok (packI (inI hs ((boxS t now).map highB))) (by simp)) hl3 hkn (box_ok hok hbk).2.2.2
  rw [hes.2.2] at hsh
  refine sv (yMove h3) <| sv (yFn (.cons rfl .nil)) ?_
  refine scall call124 (.cons rfl (.cons rfl .nil)) (c_ContainsBox (p := fun x => (decide (x.mem ≠ (boxAt (boxS t now) k).mem) && belowB (highB (boxAt (boxS t now) k)) (highB x)) && !belowB (highB x) (highB (boxAt (boxS t now) k))) (g := 125) (cl := [ptQ b5]) hB call125 (fun x cs w2 hx he hR => by
   have hx := hx
   obtain ⟨m2, l2, h2, rfl, hx4, -, -, hhx⟩ := hR
   exact c_clo1 (he.get (hS.at b5)) ((box_len hx).2.trans (box_len hbk).2.symm) (box_ok hok hbk).1 hhx (hsh.ext RInt.stays he) ((high_len hx).1.trans (high_len hbk).1.symm))) ?_
  rintro _ w ⟨rfl, hE⟩; replace hS := hS.step hE; clear hE
  refine sv (yNot rfl) ?_
  have hB := (bx_sl (hS.row (.slice av (boxS t now).length cv2)) rfl hl1 hl2 hl3 (fun b hb => box_ok hok hb) (hS.ok (packI (inI ms ((boxS t now).map Bo.mem))) (by simp)) (hS.ok (packI (inI ls ((boxS t now).map lowB))) (by simp)) (hS.ok (packI (inI hs ((boxS t now).map highB))) (by simp)))
  have hsh := in_sl (f := highB) (bs := boxS t now) (k := k) (hS.ok (packI (inI hs ((boxS t now).map highB))) (by simp)) hl3 hkn (box_ok hok hbk).2.2.2
  rw [hes.2.2] at hsh
  refine sv (yMove rfl) ?_
  refine sg rfl rfl rfl (fun g => (yMove h3)) (fun v20 g20 => ?_)
  refine sg rfl rfl rfl (fun g => (yMove rfl)) (fun v21 g21 => ?_)
  refine sg rfl rfl rfl (fun g => (yTo (i := k) (g20.1 g) (g21.1 g) underlying110 sizeOf115 (by omega))) (fun v22 g22 => ?_)
  refine sg rfl rfl rfl (fun g => (yFn (.cons rfl .nil))) (fun v23 g23 => ?_)
  refine sgc hS rfl rfl rfl call124 (fun g => (.cons (g22.1 g) (.cons (g23.1 g) .nil))) (fun g => (c_ContainsBox (p := fun x => decide (highB x = highB (boxAt (boxS t now) k))) (g := 127) (cl := [ptQ b5]) (Sl.take hB (show k ≤ (boxS t now).length by omega)) call127 (fun x cs w2 hx he hR => by
   have hx := List.mem_of_mem_take hx
   obtain ⟨m2, l2, h2, rfl, hx4, -, -, hhx⟩ := hR
   exact c_clo2 (he.get (hS.at b5)) ((box_len hx).2.trans (box_len hbk).2.symm) (box_ok hok hbk).1 hhx (hsh.ext RInt.stays he) ((high_len hx).1.trans (high_len hbk).1.symm)))) ?_; clear hS; intro v24 w hS g24
  refine sg rfl rfl rfl (fun g => (yNot (g24.1 g))) (fun v25 g25 => ?_)
  refine sv (yAnd rfl (fun hB => (g25.1 hB)) rfl) <| nil <| cwQ ?_
  refine cond rfl (fun c26 => ?_) (fun c26 => ?_)
  ·
   have hout := out_no c26
   refine region <| sv (yMove h2) <| sv (fa115_1 rfl) <| sv (fa43_2 rfl) <| sv (yLdBA rfl isAgg41 sizeOf41 (hS.at _) rfl rfl) ?_
   refine sbslice hS underlying45 sizeOf41 rfl zeroValue41 rfl (.cons rfl rfl .nil) rfl ?_; clear hS; intro b31 w hS
   refine sapp (bytes := 32) (size := 2) (v := pv) (m := 1) hS rfl rfl underlying45 ti41 rfl rfl rfl rfl (by decide) (blk_cells (hS.at _)) rfl rfl (by omega) (by omega) ?_; clear hS; intro v32 w hS
   refine sv (yAsg rfl) <| nil <| cwQ <| region <| sv (yAdd h10 rfl ⟨by omega, by omega⟩) <| sv (yMove rfl) <| nil ?_
   exact ⟨_, _, rfl, ⟨k + 1, _, rfl, h3, h8, h9, rfl, (by rw [posK_yes hout, posC_yes hout, hes.2.2]; exact hS.sub (.cons _ (.cons _ lrQ))), (by omega), rfl⟩, by omega⟩
  ·
   have hout := out_yes (by rw [c26]; decide)
   refine skip <| cwQ <| region <| sv (yAdd h10 rfl ⟨by omega, by omega⟩) <| sv (yMove rfl) <| nil ?_
   exact ⟨_, _, rfl, ⟨k + 1, _, h2, h3, h8, h9, rfl, (by rw [posK_no hout, posC_no hout]; exact hS.sub (.cons _ lrQ)), (by omega), rfl⟩, by omega⟩
 ·
  simp only [BS, ne_eq] at c11
  obtain rfl : k = (boxS t now).length := by omega
  refine exit <| cwQ <| seq <| region <| sv (yMove h2) <| sv (yAsg rfl) <| nil <| cwQ <| wp_ret ?_
  refine retQ (res1 rfl rfl) ?_
  exact ⟨ov', [rowI pv 41 2 (posK (boxS t now) (boxS t now).length).length (posC t.frm (boxS t now) hs (boxS t now).length), rowI (.slice av (boxS t now).length cv2) 115 9 (boxS t now).length (bxCs t.frm ((boxS t now).map Bo.mem) ms ls hs).flatten, packI (inI ms ((boxS t now).map Bo.mem)), packI (inI ls ((boxS t now).map lowB)), packI (inI hs ((boxS t now).map highB))], fun w2 hi => pos_sl (hi (rowI pv 41 2 (posK (boxS t now) (boxS t now).length).length (posC t.frm (boxS t now) hs (boxS t now).length)) (by simp)) rfl hf64 hl3 (fun b hb => box_ok hok hb) (hi (packI (inI hs ((boxS t now).map highB))) (by simp)), fun i hil => by
   obtain ⟨vi, hvi⟩ := pos_el (E := 41) (frm := t.frm) hil hl3 (fun b hb => box_ok hok hb)
   exact ⟨vi, fun w2 hi => hvi w2 _ (hi (rowI pv 41 2 (posK (boxS t now) (boxS t now).length).length (posC t.frm (boxS t now) hs (boxS t now).length)) (by simp)) (hi (packI (inI hs ((boxS t now).map highB))) (by simp))⟩, StX.pack (M := [rowI pv 41 2 (posK (boxS t now) (boxS t now).length).length (posC t.frm (boxS t now) hs (boxS t now).length), rowI (.slice av (boxS t now).length cv2) 115 9 (boxS t now).length (bxCs t.frm ((boxS t now).map Bo.mem) ms ls hs).flatten, packI (inI ms ((boxS t now).map Bo.mem)), packI (inI ls ((boxS t now).map lowB)), packI (inI hs ((boxS t now).map highB))]) hS⟩
end Go.Proofs.YtgidbailiababaaGreatDoor

/- part S17 -/
namespace Bx
open Go Go.RowKit
theorem its0 {w0 w : World} {L : List Item} (hS : StX [] w0 w L) : StX [] w0 w [packI []] := StX.pack (M := []) (hS.sub (List.nil_sublist _))
theorem its1 {w0 w : World} {x : Item} {L : List Item} (hS : StX [] w0 w (x :: L)) : StX [] w0 w [packI [x]] := StX.pack (M := [x]) (hS.sub (.cons_cons _ (List.nil_sublist _)))
theorem sl_none {α : Type} {w : World} {k : Nat} {R : World → List Value → α → Prop} : Sl w k R (.slice none 0 0) [] := ⟨none, 0, rfl, Nat.le_refl _, by decide, fun i hi => absurd hi (Nat.not_lt_zero _)⟩
structure Bxs where
  mem : List Int
  low : Ser
  high : Ser
def RBxs (w : World) (cs : List Value) (b : Bxs) : Prop := ∃ m l h, cs = [m, .int .i64 b.low.frm, l, .int .i64 b.high.frm, h] ∧ I64 b.low.frm ∧ I64 b.high.frm ∧ Sl w 1 RInt m b.mem ∧ Sl w 1 RInt l b.low.vals ∧ Sl w 1 RInt h b.high.vals
theorem RBxs.stays : Stays RBxs := fun _ _ _ _ e ⟨m, l, h, h1, h2, h3, h4, h5, h6⟩ => ⟨m, l, h, h1, h2, h3, h4.ext RInt.stays e, h5.ext RInt.stays e, h6.ext RInt.stays e⟩
def toBxs (frm : Int) (b : Bo) : Bxs := ⟨b.mem, ⟨frm, lowB b⟩, ⟨frm, highB b⟩⟩
section
variable {w : World} {frm : Int} {bs : List Bo} {ms ls hs : List Value}
end
end Bx

/- part Sx4 -/
namespace Go.Proofs.YtgidbailiababaaGreatDoor
open Go Bx Go.Proofs.Tryz
set_option maxHeartbeats 1000000 in
theorem c_Possible {t : Sgt} {cv : Value} {ag ak ae : Option Addr} {cg ck ce : Nat} {now : Int} {w0 : World} (h : RSgt w0 (scQ t cv ag ak ae cg ck ce) t) (hg : Glb w0) (hI : I64 now) : CE Tryz.prog 24 #[.agg (scQ t cv ag ak ae cg ck ce).toArray, .int .i64 now] w0 (fun u w' => ∃ v its, u = .tuple #[v, .int .i64 (posR t now).2] ∧ (∀ w2 : World, (∀ it ∈ its, it.ok w2) → Sl w2 2 RSer v (((posR t now).1).map (Ser.mk t.frm))) ∧ St w0 w' [packI its]) := by
 obtain ⟨hT, hG, hw64, hf64, hk64, hC, hF, hl64, hm64, hr64, hq64⟩ := RSgt.parts h
 refine enter func24 rfl ntmps24 rfl ?_
 have hS := St.start w0
 refine seq <| region ?_
 refine sbox hS rfl rfl ?_; clear hS; intro b2 w hS
 refine sv (yAsg rfl) <| sv (yAsg rfl) <| nil <| cwQ <| seq <| region <| sv (yLdBA rfl isAgg29 sizeOf29 (hS.at _) rfl rfl) <| sv (yMove rfl) ?_
 refine scall call63 (.cons rfl (.cons rfl .nil)) (c_with (h.ext hS.ext) hI) ?_
 rintro _ w (⟨he, rfl, hE⟩ | ⟨he, bk, aw, cw, ax, cx, rfl, hM⟩)
 ·
  replace hS := hS.step hE; clear hE
  refine sv (yMove rfl) <| sv (yExt rfl rfl) <| sv (yExt rfl rfl) <| sv (yAsg rfl) <| sv (yAsg rfl) <| nil <| cwQ <| seq <| seq ?_
  refine region <| sv (yMove rfl) <| sv (yNeq rfl rfl) <| nil <| cwQ ?_
  refine cond rfl (fun c15 => ?_) (fun c15 => ?_)
  ·
   simp only [BS, ne_eq] at c15
   refine seq <| region <| sv (yMove rfl) <| sv (yAsg rfl) <| sv (yAsg rfl) <| nil <| cwQ ?_
   refine wp_ret (thenR ?_)
   refine retQ (res2 rfl rfl rfl) ?_
   have hf : posR t now = ([], askE t now) := by unfold posR; rw [if_pos he]
   rw [hf]
   exact ⟨_, [], rfl, fun _ _ => sl_none, its0 hS⟩
  ·
   simp only [BS, ne_eq] at c15
   exact absurd c15 he
 ·
  replace hS := hS.call hM; clear hM
  replace hS : StX [] w0 w [blk bk (knQ t now cv ag ak ae cg ck ce aw cw ax cx (.slice none 0 0)) 123, rowI (.slice aw t.ticks.toNat cw) 74 2 t.ticks.toNat ((tidesS t).flatMap spanC), rowI (.slice ax t.ctrs.length cx) 3 1 t.ctrs.length ((curS t now).flatMap Bx.encI), blk b2 (scQ t cv ag ak ae cg ck ce) 29] := hS
  obtain ⟨hok, hnow⟩ := askE_ok he
  have htk := hok.tk
  have hnc := hok.nc
  have hnf := hok.nf
  refine sv (yMove rfl) <| sv (yExt rfl rfl) <| sv (yExt rfl rfl) <| sv (yAsg rfl) <| sv (yAsg rfl) <| nil <| cwQ <| seq <| seq ?_
  refine region <| sv (yMove rfl) <| sv (yNeq rfl rfl) <| nil <| cwQ ?_
  refine cond rfl (fun c15 => ?_) (fun c15 => ?_)
  ·
   exact absurd c15 (by decide)
  ·
   refine skip <| cwQ <| seq <| region <| sv (yMove rfl) ?_
   refine scall call67 (.cons rfl .nil) (c_possible h hok hnow hg (.inl ⟨rfl, rfl, rfl⟩) ((hS.nilrow 74 2).perm (List.Perm.swap _ _ _))) ?_
   rintro bv w ⟨ov', its, hit, -, hM⟩; clear hS; have hS := hM; clear hM
   refine sv (yAsg rfl) <| sv (yAsg rfl) <| nil <| cwQ <| wp_ret <| retQ (res2 rfl rfl rfl) ?_
   have hf : posR t now = (posS t now, 0) := by unfold posR; rw [if_neg (fun k => k he)]
   rw [hf]
   exact ⟨_, its, rfl, fun w2 hi => hit w2 hi, hS.sub (.cons_cons _ (List.nil_sublist _))⟩
end Go.Proofs.YtgidbailiababaaGreatDoor

/- part S18 -/
namespace Bx
open Go Go.RowKit
theorem has_no {s : List Span} {v : List Int} {k : Nat} (hk : k < s.length) (h : v.getD k 0 < (spn s k).lo ∨ (spn s k).hi < v.getD k 0) : hasS s v = false := by
  cases hc : hasS s v with
  | false => rfl
  | true =>
    have := List.all_eq_true.1 hc k (List.mem_range.2 hk)
    simp only [Bool.not_eq_true', Bool.or_eq_false_iff, decide_eq_false_iff_not] at this
    omega
theorem has_yes {s : List Span} {v : List Int} (h : ∀ i, i < s.length → ¬ (v.getD i 0 < (spn s i).lo ∨ (spn s i).hi < v.getD i 0)) : hasS s v = true := by
  refine List.all_eq_true.2 fun i hi => ?_
  have := h i (List.mem_range.1 hi)
  simp only [Bool.not_eq_true', Bool.or_eq_false_iff, decide_eq_false_iff_not]
  omega
theorem any_succ {p : Nat → Bool} {m : Nat} : (List.range (m + 1)).any p = ((List.range m).any p || p m) := by rw [List.range_succ, List.any_append]; simp
def encB (b : Bool) : List Value := [.bool b]
section
variable {P : Program} {ops : Array Oper} {Q : Exit → Act → World → Prop} {n : Nat} {f : Fr} {w w0 : World} {S : List Nat} {rest : List Oper} {d : Nat} {ty : TypeId} {pos : String} {af : Array Edge}
theorem ungn {op : Op} {j dj : Nat} {want : Bool} {v : Value} (hd : dstOf ops j = some dj) (hn : Nat.blt dj n = true) (hb : f dj = v) (hv : v ≠ .bool want) (h : wpL P ops Q n rest (upd f d undef) w) : wpL P ops Q n (⟨some d, op, ty, pos, af, some (j, want)⟩ :: rest) f w :=
  wpL_guard (G := False) (v := undef) hd hn ⟨False.elim, fun e => hv (hb.symm.trans e)⟩ (fun g => g.elim) fun v' c => by rw [c.2 id]; exact h
end
section
variable {t : Sgt} {now : Int} {v : List Int}
theorem right_len : (rightS t now v).length = t.ctrs.length := by simp [rightS]
theorem right_get {k : Nat} (h : k < t.ctrs.length) : (rightS t now v)[k]? = some (rightAt t now v k) := by simp [rightS, h]
theorem right_no {k : Nat} (h : ¬ 0 ≤ curOf t now k) : rightAt t now v k = false := by unfold rightAt; rw [decide_eq_false h]; rfl
theorem right_yes {k : Nat} (h : 0 ≤ curOf t now k) : rightAt t now v k = (List.range (fct t.fcs (curOf t now k).toNat).members.length).any fun m => hasS (tubeS t (fct t.fcs (curOf t now k).toNat) (mem (fct t.fcs (curOf t now k).toNat) m)) v := by unfold rightAt; rw [decide_eq_true h]; rfl
theorem cnt_snoc {l : List Bool} {k : Nat} {b : Bool} (h : l[k]? = some b) : (l.take (k + 1)).countP (fun b => b) = (l.take k).countP (fun b => b) + if b = true then 1 else 0 := by rw [take_snoc h, List.countP_append, List.countP_singleton]
theorem cnt_le {l : List Bool} {k : Nat} : (l.take k).countP (fun b => b) ≤ k := by
  have := List.countP_le_length (p := fun b : Bool => b) (l := l.take k)
  rw [List.length_take] at this; omega
end
end Bx

/- part Sx5 -/
namespace Go.Proofs.YtgidbailiababaaGreatDoor
open Go Bx Go.Proofs.Tryz
set_option maxHeartbeats 1000000 in
theorem c_has {s : List Span} {v : List Int} {sv vv : Value} {w0 : World} (hs : Sl w0 2 RSpan sv s) (hv : Sl w0 1 RInt vv v) (hl : v.length = s.length) : CV Tryz.prog 131 #[sv, vv] w0 (.bool (hasS s v)) := by
 obtain ⟨a, ca, rfl, hacap, hamx, -⟩ := id hs
 obtain ⟨av, cv, rfl, -⟩ := id hv
 refine enter func131 rfl ntmps131 rfl ?_
 have hS := St.start w0
 refine seq <| region <| sv (yAsg rfl) <| nil <| cwQ <| seq <| seq <| region <| sv (yMove rfl) ?_
 refine sv (yLen rfl underlying121) <| sv (yMove rfl) <| nil <| cwQ <| block <| loop (fun f w zz => ∃ (k : Nat), f 1 = .slice av v.length cv ∧ f 7 = .slice a s.length ca ∧ f 8 = .int .i64 (s.length : Int) ∧ f 9 = .int .i64 (k : Int) ∧ StX [] w0 w [] ∧ (k ≤ s.length) ∧ (∀ i, i < k → ¬ (v.getD i 0 < (spn s i).lo ∨ (spn s i).hi < v.getD i 0)) ∧ zz = s.length - k) _ ⟨_, rfl, 0, rfl, rfl, rfl, rfl, hS, (Nat.zero_le _), (fun i hi => absurd hi (Nat.not_lt_zero _)), rfl⟩ ?_
 clear hS
 rintro f w _ ⟨k, h1, h7, h8, h9, hS, hk, hA, rfl⟩
 refine seq <| region <| sv (yLss h9 h8) <| nil <| cwQ <| seq ?_
 refine cond rfl (fun c10 => ?_) (fun c10 => ?_)
 ·
  simp only [BS, ne_eq] at c10
  have hkl : k < s.length := by omega
  obtain ⟨bx, ox, cx, hax, hlx, hcx, hRx, -⟩ := sl_at hs (spn_get hkl)
  obtain ⟨rfl, -⟩ := hRx
  obtain ⟨by0, oy, cy, hay, hly, hcy, hRy, -⟩ := sl_at hv (show v[k]? = some (v.getD k 0) by simp [show k < v.length by omega])
  obtain ⟨rfl, -⟩ := hRy
  refine skip <| cwQ <| seq <| block <| seq <| region <| sv (yMove h9) <| sv (yIxQ h7 hax h9 runUnderlying121 sizeOf74) <| sv (yLdA rfl isAgg74 sizeOf74 (hcx.ext hS.ext) rfl) ?_
  refine salloc hS zeroValue74 rfl ?_; clear hS; intro b6 w hS
  refine sv (yAsg rfl) ?_
  refine sst hS rfl rfl sizeOf74 rfl rfl rfl rfl ?_; clear hS; intro w hS
  refine nil <| cwQ <| seq <| region_draw mixed (by kernel_rfl) hS <| qv (fun w hS => (yMove h1)) <| qv (fun w hS => (yMove rfl)) <| qv (fun w hS => (yIxQ rfl hay rfl runUnderlying39 sizeOf3)) <| qv (fun w hS => (yLd rfl isAgg3 (hcy.ext hS.ext).one)) <| qv (fun w hS => (fa74_0 rfl)) ?_
  refine qv (fun w hS => (yLdB rfl isAgg3 (hS.at _) rfl)) <| qv (fun w hS => (yLss rfl rfl)) <| qv (fun w hS => (yMove rfl)) ?_
  refine qg rfl rfl rfl (fun g w hS => (yMove h1)) (fun v22 g22 => ?_)
  refine qg rfl rfl rfl (fun g w hS => (yMove rfl)) (fun v23 g23 => ?_)
  refine qg rfl rfl rfl (fun g w hS => (yIxQ (g22.1 g) hay (g23.1 g) runUnderlying39 sizeOf3)) (fun v24 g24 => ?_)
  refine qg rfl rfl rfl (fun g w hS => (yLd (g24.1 g) isAgg3 (hcy.ext hS.ext).one)) (fun v25 g25 => ?_)
  refine qg rfl rfl rfl (fun g w hS => (fa74_1 rfl)) (fun v26 g26 => ?_)
  refine qg rfl rfl rfl (fun g w hS => (yLdB (g26.1 g) isAgg3 (hS.at _) rfl)) (fun v27 g27 => ?_)
  refine qg rfl rfl rfl (fun g w hS => (yGtr (g25.1 g) (g27.1 g))) (fun v28 g28 => ?_)
  refine qv (fun w hS => (yOr rfl rfl (fun hB => (g28.1 hB)))) ?_
  clear hS; refine qnil (fun w hS => ?_)
  refine cwQ ?_
  refine cond rfl (fun c29 => ?_) (fun c29 => ?_)
  ·
   simp only [BS, ne_eq] at c29
   refine seq <| region <| sv (yAsg rfl) <| nil <| cwQ ?_
   refine wp_ret (blockR (thenR (thenR (blockR (thenR ?_)))))
   exact retV (res1 rfl (congrArg Value.bool (show false = hasS s v from (has_no hkl c29).symm))) hS.ext
  ·
   simp only [BS, ne_eq] at c29
   refine skip <| cwQ <| region <| sv (yAdd h9 rfl ⟨by omega, by omega⟩) <| sv (yMove rfl) <| nil ?_
   exact ⟨_, _, rfl, ⟨k + 1, h1, h7, h8, rfl, (hS.sub (List.nil_sublist _)), (by omega), (fun i hi => by by_cases e : i = k; subst e; omega; exact hA i (by omega)), rfl⟩, by omega⟩
 ·
  simp only [BS, ne_eq] at c10
  obtain rfl : k = s.length := by omega
  refine exit <| cwQ <| seq <| region <| sv (yAsg rfl) <| nil <| cwQ <| wp_ret ?_
  exact retV (res1 rfl (congrArg Value.bool (show true = hasS s v from (has_yes hA).symm))) hS.ext
end Go.Proofs.YtgidbailiababaaGreatDoor

/- part Sx6 -/
namespace Go.Proofs.YtgidbailiababaaGreatDoor
open Go Bx Go.Proofs.Tryz
set_option maxHeartbeats 4000000 in
theorem c_right {t : Sgt} {now : Int} {ov : Value} {bk : Nat} {T : TypeId} {w0 : World} (hk : RKn w0 bk T t now ov) (hok : SgOk t) {v : List Int} {vv : Value} (hg : Glb w0) (hv : Sl w0 1 RInt vv v) (hvl : v.length = t.ticks.toNat) : CE Tryz.prog 76 #[ptQ bk, vv] w0 (fun u w' => ∃ rv, u = .tuple #[rv, .int .i64 (((rightS t now v).countP (fun b => b) : Nat) : Int)] ∧ St w0 w' [rowI rv 4 1 t.ctrs.length ((rightS t now v).flatMap encB)]) := by
 obtain ⟨cv, ag, cg, ak, ck, ae, ce, aw, cw, ax, cx, hkb, hT, hG, hC, hF, hW, hX⟩ := id hk
 have hnc := hok.nc
 have hcl := curS_len t now
 refine enter func76 rfl ntmps76 rfl ?_
 have hS := St.start w0
 refine seq <| region <| sv (yAsg rfl) <| sv (yAsg rfl) <| nil <| cwQ <| seq <| seq <| region ?_
 refine sv (yMove rfl) <| sv (yNil rfl) <| sv (fa123_3 rfl) <| sv (yLdB rfl isAgg39 (hS.ext.get hkb) rfl) <| sv (yLen rfl underlying39) <| sv (yMove rfl) <| nil <| cwQ <| block ?_
 refine loop (fun f w zz => ∃ (k : Nat) (rv : Value), f 0 = ptQ bk ∧ f 1 = vv ∧ f 4 = rv ∧ f 5 = .int .i64 ((((rightS t now v).take k).countP (fun b => b) : Nat) : Int) ∧ f 13 = .slice ax t.ctrs.length cx ∧ f 14 = .int .i64 (t.ctrs.length : Int) ∧ f 15 = .int .i64 (k : Int) ∧ StX [] w0 w [rowI (rv) 4 1 k (((rightS t now v).take k).flatMap encB)] ∧ (k ≤ t.ctrs.length) ∧ zz = t.ctrs.length - k) _ ⟨_, rfl, 0, _, rfl, rfl, rfl, rfl, rfl, rfl, rfl, (hS.nilrow 4 1), (Nat.zero_le _), rfl⟩ ?_
 clear hS
 rintro f w _ ⟨k, rv, h0, h1, h4, h5, h13, h14, h15, hS, hk2, rfl⟩
 refine seq <| region <| sv (yLss h15 h14) <| nil <| cwQ <| seq ?_
 refine cond rfl (fun c16 => ?_) (fun c16 => ?_)
 ·
  simp only [BS, ne_eq] at c16
  have hkl : k < t.ctrs.length := by omega
  obtain ⟨bq, oq, cq, haq, hlq, hcq, hRq, -⟩ := sl_at hX (curS_get t now hkl)
  obtain ⟨rfl, -⟩ := hRq
  have hcnt : ((rightS t now v).take k).countP (fun b => b) ≤ k := cnt_le
  refine skip <| cwQ <| seq <| block <| seq <| region <| sv (yIxQ h13 haq h15 runUnderlying39 sizeOf3) <| sv (yLd rfl isAgg3 (hcq.ext hS.ext).one) <| sv (yAsg rfl) ?_
  refine nil <| cwQ <| seq <| region <| sv (yAsg rfl) <| nil <| cwQ ?_
  refine seqJ (n := 61) (fun f w => ∃ (rb : Bool), f 0 = ptQ bk ∧ f 1 = vv ∧ f 4 = rv ∧ f 5 = .int .i64 ((((rightS t now v).take k).countP (fun b => b) : Nat) : Int) ∧ f 13 = .slice ax t.ctrs.length cx ∧ f 14 = .int .i64 (t.ctrs.length : Int) ∧ f 15 = .int .i64 (k : Int) ∧ f 8 = .bool rb ∧ StX [] w0 w [rowI (rv) 4 1 k (((rightS t now v).take k).flatMap encB)] ∧ (rightAt t now v k = rb) ∧ True) ?_ ?_
  ·
   refine seq <| region <| sv (yMove rfl) <| sv (yGeq rfl rfl) <| nil <| cwQ ?_
   refine cond rfl (fun c20 => ?_) (fun c20 => ?_)
   ·
    simp only [BS, ne_eq] at c20
    obtain ⟨hcf0, hfo⟩ := cur_fct hok (show 0 ≤ curOf t now k by omega)
    obtain ⟨bf, of, csf, haf, -, hcf, hRf, -⟩ := sl_at hF (fct_get hcf0)
    obtain ⟨mv, rfl, hf1, hf2, hf3, hMm⟩ := id hRf
    obtain ⟨am, cm, rfl, hmcap, hmmx, -⟩ := id hMm
    have hnm := hfo.nm
    refine seq <| region <| sv (yMove h0) <| sv (yNil rfl) <| sv (fa123_0 rfl) <| sv (fa29_6 rfl) <| sv (yLdB rfl isAgg27 (hS.ext.get hkb) rfl) <| sv (yMove rfl) <| sv (yIxQ rfl haf (rfl.trans (congrArg (Value.int .i64) (show curOf t now k = (((curOf t now k).toNat : Nat) : Int) by omega))) runUnderlying27 sizeOf61) ?_
    refine sv (fa61_3 rfl) <| sv (yLd rfl isAgg59 ((hcf.ext hS.ext).at (j := 3) rfl)) <| sv (yLen rfl underlying59) <| sv (yMove rfl) <| nil <| cwQ <| block <| loop (fun f w zz => ∃ (m : Nat) (can : Bool), f 0 = ptQ bk ∧ f 1 = vv ∧ f 4 = rv ∧ f 5 = .int .i64 ((((rightS t now v).take k).countP (fun b => b) : Nat) : Int) ∧ f 13 = .slice ax t.ctrs.length cx ∧ f 14 = .int .i64 (t.ctrs.length : Int) ∧ f 15 = .int .i64 (k : Int) ∧ f 7 = .int .i64 (curOf t now k) ∧ f 8 = .bool can ∧ f 29 = .slice am (fct t.fcs (curOf t now k).toNat).members.length cm ∧ f 30 = .int .i64 ((fct t.fcs (curOf t now k).toNat).members.length : Int) ∧ f 31 = .int .i64 (m : Int) ∧ StX [] w0 w [rowI (rv) 4 1 k (((rightS t now v).take k).flatMap encB)] ∧ (m ≤ (fct t.fcs (curOf t now k).toNat).members.length) ∧ (can = (List.range m).any fun q => hasS (tubeS t (fct t.fcs (curOf t now k).toNat) (mem (fct t.fcs (curOf t now k).toNat) q)) v) ∧ zz = (fct t.fcs (curOf t now k).toNat).members.length - m) _ ⟨_, rfl, 0, false, h0, h1, h4, h5, h13, h14, h15, rfl, rfl, rfl, rfl, rfl, hS, (Nat.zero_le _), (rfl), rfl⟩ ?_
    clear hS
    rintro f w _ ⟨m, can, h0, h1, h4, h5, h13, h14, h15, h7, h8, h29, h30, h31, hS, hm, hcan, rfl⟩
    refine seq <| region <| sv (yLss h31 h30) <| nil <| cwQ <| seq ?_
    refine cond rfl (fun c32 => ?_) (fun c32 => ?_)
    ·
     simp only [BS, ne_eq] at c32
     have hml : m < (fct t.fcs (curOf t now k).toNat).members.length := by omega
     refine skip <| cwQ <| seq <| block <| seq <| region <| sv (yMove h31) <| sv (yAsg rfl) <| nil ?_
     refine cwQ ?_
     rcases Bool.eq_false_or_eq_true can with hcc | hcc
     ·
      refine region <| sv (yMove h8) <| sv (yMove rfl) ?_
      refine ungn (v := .bool can) rfl rfl rfl (by rw [hcc]; simp) ?_
      refine ungn (v := .bool can) rfl rfl rfl (by rw [hcc]; simp) ?_
      refine ungn (v := .bool can) rfl rfl rfl (by rw [hcc]; simp) ?_
      refine ungn (v := .bool can) rfl rfl rfl (by rw [hcc]; simp) ?_
      refine ungn (v := .bool can) rfl rfl rfl (by rw [hcc]; simp) ?_
      refine ungn (v := .bool can) rfl rfl rfl (by rw [hcc]; simp) ?_
      refine ungn (v := .bool can) rfl rfl rfl (by rw [hcc]; simp) ?_
      refine ungn (v := .bool can) rfl rfl rfl (by rw [hcc]; simp) ?_
      refine ungn (v := .bool can) rfl rfl rfl (by rw [hcc]; simp) ?_
      refine ungn (v := .bool can) rfl rfl rfl (by rw [hcc]; simp) ?_
      refine ungn (v := .bool can) rfl rfl rfl (by rw [hcc]; simp) ?_
      refine ungn (v := .bool can) rfl rfl rfl (by rw [hcc]; simp) ?_
      refine ungn (v := .bool can) rfl rfl rfl (by rw [hcc]; simp) ?_
      refine sv (yPick (v := .bool can) (B := can) rfl (fun _ => by rw [hcc]; rfl) (fun h => absurd (hcc.symm.trans h) (by decide))) ?_
      refine sv (yAsg rfl) <| nil <| cwQ <| region <| sv (yAdd h31 rfl ⟨by omega, by omega⟩) <| sv (yMove rfl) <| nil ?_
      exact ⟨_, _, rfl, ⟨m + 1, can, h0, h1, h4, h5, h13, h14, h15, h7, rfl, h29, h30, rfl, hS, (by omega), (by rw [any_succ, ← hcan, hcc]; rfl), rfl⟩, by omega⟩
     ·
      refine region <| sv (yMove h8) <| sv (yMove rfl) <| ungo rfl rfl (congrArg Value.bool hcc) <| sv (yMove h0) <| ungo rfl rfl (congrArg Value.bool hcc) <| sv (yMove h0) <| ungo rfl rfl (congrArg Value.bool hcc) <| sv (yNil rfl) ?_
      refine ungo rfl rfl (congrArg Value.bool hcc) <| sv (fa123_0 rfl) <| ungo rfl rfl (congrArg Value.bool hcc) <| sv (fa29_6 rfl) <| ungo rfl rfl (congrArg Value.bool hcc) <| sv (yLdB rfl isAgg27 (hS.ext.get hkb) rfl) <| ungo rfl rfl (congrArg Value.bool hcc) <| sv (yMove h7) <| ungo rfl rfl (congrArg Value.bool hcc) ?_
      refine sv (yIxQ rfl haf (rfl.trans (congrArg (Value.int .i64) (show curOf t now k = (((curOf t now k).toNat : Nat) : Int) by omega))) runUnderlying27 sizeOf61) <| ungo rfl rfl (congrArg Value.bool hcc) <| sv (yLdA rfl isAgg61 sizeOf61 (hcf.ext hS.ext) rfl) <| ungo rfl rfl (congrArg Value.bool hcc) <| sv (yMove rfl) <| ungo rfl rfl (congrArg Value.bool hcc) ?_
      refine scall call83 (.cons rfl (.cons rfl (.cons rfl .nil))) (c_tubeS (hk.ext hS.ext) hok (hg.ext hS.ext) hfo hml (hMm.ext RRow.stays hS.ext)) ?_
      rintro tv w hM; replace hS := hS.call1 hM; clear hM
      have htl := tubeS_lbd hok hfo hml
      refine ungo rfl rfl (congrArg Value.bool hcc) <| sv (yMove h1) <| ungo rfl rfl (congrArg Value.bool hcc) ?_
      refine scV hS call131 (.cons rfl (.cons rfl .nil)) (c_has (sl_spans (hS.row tv) (tubeS_len ..) (lbd_i64 htl)) (hv.ext RInt.stays hS.ext) (hvl.trans (tubeS_len ..).symm)) ?_; clear hS; intro w hS
      refine sv (yPick (v := .bool (hasS (tubeS t (fct t.fcs (curOf t now k).toNat) (mem (fct t.fcs (curOf t now k).toNat) m)) v)) (B := can) rfl (fun h => absurd (hcc.symm.trans h) (by decide)) (fun _ => rfl)) <| sv (yAsg rfl) <| nil <| cwQ <| region <| sv (yAdd h31 rfl ⟨by omega, by omega⟩) <| sv (yMove rfl) <| nil ?_
      exact ⟨_, _, rfl, ⟨m + 1, _, h0, h1, h4, h5, h13, h14, h15, h7, rfl, h29, h30, rfl, (hS.sub (.cons _ lrQ)), (by omega), (by rw [any_succ, ← hcan, hcc]; rfl), rfl⟩, by omega⟩
    ·
     simp only [BS, ne_eq] at c32
     obtain rfl : m = (fct t.fcs (curOf t now k).toNat).members.length := by omega
     refine exit ?_
     exact ⟨_, rfl, _, h0, h1, h4, h5, h13, h14, h15, h8, hS, ((by rw [right_yes (by omega), ← hcan])), trivial⟩
   ·
    simp only [BS, ne_eq] at c20
    refine skip ?_
    exact ⟨_, rfl, false, h0, h1, h4, h5, h13, h14, h15, rfl, hS, ((right_no (by omega))), trivial⟩
  ·
   clear hS; rintro f w ⟨rb, h0, h1, h4, h5, h13, h14, h15, h8, hS, hrb, -⟩
   refine seq <| seq <| region <| sv (yMove h8) <| nil <| cwQ ?_
   refine cond rfl (fun c51 => ?_) (fun c51 => ?_)
   ·
    have hrt : rb = true := c51
    refine region <| sv (yMove h5) <| sv (yAdd rfl rfl ⟨by omega, by omega⟩) <| sv (yAsg rfl) <| nil <| cwQ <| region <| sv (yMove h4) <| sv (yMove h8) ?_
    refine sbslice hS underlying78 sizeOf4 rfl zeroValue4 rfl (.cons rfl rfl .nil) rfl ?_; clear hS; intro b56 w hS
    refine sapp (bytes := 1) (size := 1) (v := rv) (m := 1) hS rfl rfl underlying78 ti4 rfl rfl rfl rfl (by decide) (blk_cells (hS.at _)) rfl rfl (by omega) (by omega) ?_; clear hS; intro v57 w hS
    refine sv (yAsg rfl) <| nil <| cwQ <| region <| sv (yAdd h15 rfl ⟨by omega, by omega⟩) <| sv (yMove rfl) <| nil ?_
    exact ⟨_, _, rfl, ⟨k + 1, _, h0, h1, rfl, (rfl.trans (congrArg (Value.int .i64) (by rw [cnt_snoc (right_get hkl), hrb, hrt]; simp))), h13, h14, rfl, (by rw [take_snoc (right_get hkl), List.flatMap_append, hrb]; exact hS.sub (.cons _ lrQ)), (by omega), rfl⟩, by omega⟩
   ·
    have hrt : rb = false := c51
    refine skip <| cwQ <| region <| sv (yMove h4) <| sv (yMove h8) ?_
    refine sbslice hS underlying78 sizeOf4 rfl zeroValue4 rfl (.cons rfl rfl .nil) rfl ?_; clear hS; intro b56 w hS
    refine sapp (bytes := 1) (size := 1) (v := rv) (m := 1) hS rfl rfl underlying78 ti4 rfl rfl rfl rfl (by decide) (blk_cells (hS.at _)) rfl rfl (by omega) (by omega) ?_; clear hS; intro v57 w hS
    refine sv (yAsg rfl) <| nil <| cwQ <| region <| sv (yAdd h15 rfl ⟨by omega, by omega⟩) <| sv (yMove rfl) <| nil ?_
    exact ⟨_, _, rfl, ⟨k + 1, _, h0, h1, rfl, (h5.trans (congrArg (Value.int .i64) (by rw [cnt_snoc (right_get hkl), hrb, hrt]; simp))), h13, h14, rfl, (by rw [take_snoc (right_get hkl), List.flatMap_append, hrb]; exact hS.sub (.cons _ lrQ)), (by omega), rfl⟩, by omega⟩
 ·
  simp only [BS, ne_eq] at c16
  obtain rfl : k = t.ctrs.length := by omega
  rw [show (rightS t now v).take t.ctrs.length = rightS t now v from List.take_of_length_le (by rw [right_len]; exact Nat.le_refl _)] at hS h5
  refine exit <| cwQ <| seq <| region <| sv (yMove h4) <| sv (yMove h5) <| sv (yAsg rfl) <| sv (yAsg rfl) <| nil ?_
  refine cwQ <| wp_ret <| retQ (res2 rfl rfl rfl) ?_
  exact ⟨_, rfl, hS⟩
end Go.Proofs.YtgidbailiababaaGreatDoor

/- part S19 -/
namespace Bx
open Go Go.RowKit
theorem getD_mem {v : List Int} {k : Nat} (h : k < v.length) : v.getD k 0 ∈ v := by
  have : v[k]? = some (v.getD k 0) := by simp [h]
  exact List.mem_of_getElem? this
theorem sl_cellx {w : World} {a : Option Addr} {b o n c : Nat} {l : List Int} {i : Nat} {x : Int} (h : Sl w 1 RInt (.slice a n c) l) (hx : l[i]? = some x) (ha : a = some ⟨b, o, none⟩) : w.cell? ⟨b, o + i * 1, none⟩ = some (.int .i64 x) := by
  subst ha
  exact sl_cell h hx
section
variable {t : Sgt} {now : Int} {v : List Int}
theorem rate_yes {r : Int} (h : ∀ i, i < v.length - 1 → outB (v.getD (i + 1) 0 - v.getD i 0) (-r) r = false) : rateB r v = true := by
  refine List.all_eq_true.2 fun i hi => ?_
  rw [h i (List.mem_range.1 hi)]; rfl
theorem is_rate {k : Nat} (hk : k + 1 < v.length) (h : outB (v.getD (k + 1) 0 - v.getD k 0) (-t.rate) t.rate = true) : isS t now v = false := by
  have hr : rateB t.rate v = false := by
    cases hc : rateB t.rate v with
    | false => rfl
    | true =>
      have := List.all_eq_true.1 hc k (List.mem_range.2 (by omega))
      rw [h] at this; cases this
  unfold isS
  rw [hr]; rfl
theorem is_has (h : hasS (baseS t now) v = false) : isS t now v = false := by
  unfold isS
  rw [h, Bool.and_false]; rfl
theorem is_all (h1 : rateB t.rate v = true) (h2 : hasS (baseS t now) v = true) : isS t now v = decide (needS t now ≤ ((rightS t now v).countP fun b => b : Nat)) := by
  unfold isS
  rw [h1, h2]; rfl
end
end Bx

/- part Sx7 -/
namespace Go.Proofs.YtgidbailiababaaGreatDoor
open Go Bx Go.Proofs.Tryz
set_option maxHeartbeats 4000000 in
theorem c_is {t : Sgt} {now : Int} {cv ov : Value} {ag ak ae aw ax : Option Addr} {cg ck ce cw cx bk mo : Nat} {os : List Span} {w0 w : World} {L9 : List Bx.Item} (h : RSgt w0 (scQ t cv ag ak ae cg ck ce) t) (hok : SgOk t) (hnow : Bd now 0 200000) (hg : Glb w0) (hown : (os = [] ∧ mo = 0 ∧ ov = .slice none 0 0) ∨ (os = baseS t now ∧ mo = t.ticks.toNat)) (hS : StX [] w0 w (blk bk (knQ t now cv ag ak ae cg ck ce aw cw ax cx ov) 123 :: rowI (ov) 74 2 mo ((os).flatMap spanC) :: rowI (.slice aw t.ticks.toNat cw) 74 2 t.ticks.toNat ((tidesS t).flatMap spanC) :: rowI (.slice ax t.ctrs.length cx) 3 1 t.ctrs.length ((curS t now).flatMap Bx.encI) :: L9)) {v : List Int} {vv : Value} (hvr : ∀ w2 : World, (∀ it ∈ L9, it.ok w2) → Ext w0 w2 → Sl w2 1 RInt vv v) (hvl : v.length = t.ticks.toNat) (hvb : ∀ x ∈ v, Bd x (-200000) 200000) : CE Tryz.prog 70 #[ptQ bk, vv] w (fun u w' => u = .bool (isS t now v) ∧ ∃ (ov' : Value) (os' : List Span) (mo' : Nat), ((os' = [] ∧ mo' = 0 ∧ ov' = .slice none 0 0) ∨ (os' = baseS t now ∧ mo' = t.ticks.toNat)) ∧ StX [] w0 w' (blk bk (knQ t now cv ag ak ae cg ck ce aw cw ax cx ov') 123 :: rowI (ov') 74 2 mo' ((os').flatMap spanC) :: rowI (.slice aw t.ticks.toNat cw) 74 2 t.ticks.toNat ((tidesS t).flatMap spanC) :: rowI (.slice ax t.ctrs.length cx) 3 1 t.ctrs.length ((curS t now).flatMap Bx.encI) :: L9)) := by
 obtain ⟨hT, hG, hw64, hf64, hk64, hC, hF, hl64, hm64, hr64, hq64⟩ := RSgt.parts h
 have htk := hok.tk
 have hn4 := hok.nums4
 obtain ⟨av, cvv, rfl, hvc, hvm, -⟩ := hvr _ (fun it hi => hS.ok it ((List.mem_cons_of_mem _ (List.mem_cons_of_mem _ (List.mem_cons_of_mem _ (List.mem_cons_of_mem _ hi)))))) hS.ext
 refine enter func70 rfl ntmps70 rfl ?_
 skip
 refine seq <| region <| sv (yAsg rfl) <| nil <| cwQ <| seq <| seq <| region <| sv (yAsg rfl) ?_
 refine nil <| cwQ <| block <| loop (fun f w zz => ∃ (k : Nat), f 0 = ptQ bk ∧ f 1 = .slice av v.length cvv ∧ f 5 = .int .i64 ((k + 1 : Nat) : Int) ∧ StX [] w0 w (blk bk (knQ t now cv ag ak ae cg ck ce aw cw ax cx ov) 123 :: rowI (ov) 74 2 mo ((os).flatMap spanC) :: rowI (.slice aw t.ticks.toNat cw) 74 2 t.ticks.toNat ((tidesS t).flatMap spanC) :: rowI (.slice ax t.ctrs.length cx) 3 1 t.ctrs.length ((curS t now).flatMap Bx.encI) :: L9) ∧ (k + 1 ≤ v.length) ∧ (∀ i, i < k → outB (v.getD (i + 1) 0 - v.getD i 0) (-t.rate) t.rate = false) ∧ zz = v.length - k) _ ⟨_, rfl, 0, rfl, rfl, rfl, hS, (by omega), (fun i hi => absurd hi (Nat.not_lt_zero _)), rfl⟩ ?_
 clear hS
 rintro f w _ ⟨k, h0, h1, h5, hS, hk, hA, rfl⟩
 refine seq <| seq <| region <| sv (yMove h5) <| sv (yMove h1) <| sv (yLen rfl underlying39) <| sv (yLss rfl rfl) <| nil <| cwQ ?_
 refine cond rfl (fun c11 => ?_) (fun c11 => ?_)
 ·
  simp only [BS, ne_eq] at c11
  have hkl : k + 1 < v.length := by omega
  have hvw := hvr _ (fun it hi => hS.ok it ((List.mem_cons_of_mem _ (List.mem_cons_of_mem _ (List.mem_cons_of_mem _ (List.mem_cons_of_mem _ hi)))))) hS.ext
  obtain ⟨b1, o1, c1, ha1, -, hc1, hR1, -⟩ := sl_at hvw (show v[k + 1]? = some (v.getD (k + 1) 0) by simp [hkl])
  obtain ⟨rfl, -⟩ := hR1
  obtain ⟨b0, o0, c0, ha0, -, hc0, hR0, -⟩ := sl_at hvw (show v[k]? = some (v.getD k 0) by simp [show k < v.length by omega])
  obtain ⟨rfl, -⟩ := hR0
  have hb1 := hvb _ (getD_mem hkl)
  have hb0 := hvb _ (getD_mem (show k < v.length by omega))
  refine skip <| cwQ <| seq <| block <| seq <| region_mix (fun w => StX [] w0 w (blk bk (knQ t now cv ag ak ae cg ck ce aw cw ax cx ov) 123 :: rowI (ov) 74 2 mo ((os).flatMap spanC) :: rowI (.slice aw t.ticks.toNat cw) 74 2 t.ticks.toNat ((tidesS t).flatMap spanC) :: rowI (.slice ax t.ctrs.length cx) 3 1 t.ctrs.length ((curS t now).flatMap Bx.encI) :: L9)) 22 mixed hS ?_
  clear hS; intro w hS
  refine fsQ 0 rfl (fun w hS => (yMove h1)) <| fsQ 1 rfl (fun w hS => (yMove h5)) <| fsQ 2 rfl (fun w hS => (yIxQ rfl ha1 (rfl.trans (congrArg (Value.int .i64) (show ((k + 1 : Nat) : Int) = _ from rfl))) runUnderlying39 sizeOf3)) <| fsQ 3 rfl (fun w hS => (yLd rfl isAgg3 ((sl_cellx (hvr _ (fun it hi => hS.ok it ((List.mem_cons_of_mem _ (List.mem_cons_of_mem _ (List.mem_cons_of_mem _ (List.mem_cons_of_mem _ hi)))))) hS.ext) (show v[k + 1]? = some (v.getD (k + 1) 0) by simp [hkl]) ha1)))) <| fsQ 4 rfl (fun w hS => (yMove h1)) <| fsQ 5 rfl (fun w hS => (yMove h5)) <| fsQ 6 rfl (fun w hS => (Y.to (ySub rfl rfl ⟨by omega, by omega⟩) (congrArg (Value.int .i64) (show ((k + 1 : Nat) : Int) - 1 = (k : Int) by omega)))) <| fsQ 7 rfl (fun w hS => (yIxQ rfl ha0 rfl runUnderlying39 sizeOf3)) <| fsQ 8 rfl (fun w hS => (yLd rfl isAgg3 ((sl_cellx (hvr _ (fun it hi => hS.ok it ((List.mem_cons_of_mem _ (List.mem_cons_of_mem _ (List.mem_cons_of_mem _ (List.mem_cons_of_mem _ hi)))))) hS.ext) (show v[k]? = some (v.getD k 0) by simp [show k < v.length by omega]) ha0)))) ?_
  refine fsQ 9 rfl (fun w hS => (ySub rfl rfl ⟨by omega, by omega⟩)) <| fsQ 10 rfl (fun w hS => (yMove h0)) <| fsQ 11 rfl (fun w hS => (yNil rfl)) <| fsQ 12 rfl (fun w hS => (fa123_0 rfl)) <| fsQ 13 rfl (fun w hS => (fa29_9 rfl)) <| fsQ 14 rfl (fun w hS => (yLdB rfl isAgg3 (hS.at bk) rfl)) <| fsQ 15 rfl (fun w hS => (yNeg rfl ⟨by omega, by omega⟩)) <| fsQ 16 rfl (fun w hS => (yMove h0)) <| fsQ 17 rfl (fun w hS => (yNil rfl)) ?_
  refine fsQ 18 rfl (fun w hS => (fa123_0 rfl)) <| fsQ 19 rfl (fun w hS => (fa29_9 rfl)) <| fsQ 20 rfl (fun w hS => (yLdB rfl isAgg3 (hS.at bk) rfl)) <| awQ <| a1Q 21 (by kernel_rfl) rfl ?_
  refine scV hS call53 (.cons rfl (.cons rfl (.cons rfl .nil))) c_outS ?_; clear hS; intro w hS
  refine nil ?_
  refine ⟨fun _ => hS, ?_⟩
  refine awQ <| a_end (by kernel_rfl) <| cwQ ?_
  refine cond rfl (fun c35 => ?_) (fun c35 => ?_)
  ·
   refine seq <| region <| sv (yAsg rfl) <| nil <| cwQ ?_
   refine wp_ret (blockR (thenR (thenR (blockR (thenR ?_)))))
   refine retQ (res1 rfl rfl) ?_
   exact ⟨by rw [is_rate hkl c35]; rfl, ov, os, mo, hown, hS⟩
  ·
   refine skip <| cwQ <| region <| sv (yMove h5) <| sv (yAdd rfl rfl ⟨by omega, by omega⟩) <| sv (yAsg rfl) <| nil ?_
   exact ⟨_, _, rfl, ⟨k + 1, h0, h1, rfl, hS, (by omega), (fun i hi => by
    by_cases e : i = k
    ·
     subst e; exact c35
    ·
     exact hA i (by omega)), rfl⟩, by omega⟩
 ·
  simp only [BS, ne_eq] at c11
  have hke : v.length = k + 1 := by omega
  have hrate := rate_yes (show ∀ i, i < v.length - 1 → _ from fun i hi => hA i (by omega))
  refine exit <| cwQ <| seq <| seq <| region <| sv (yMove h0) ?_
  refine scall call81 (.cons rfl .nil) (c_baseS h hok hnow hg hown hS) ?_
  rintro bv w ⟨ov', hM⟩; clear hS; have hS := hM; clear hM
  refine sv (yMove h1) ?_
  refine scV hS call131 (.cons rfl (.cons rfl .nil)) (c_has (sl_spans (hS.row bv) (baseS_len ..) (lbd_i64 (baseS_lbd hok now))) (hvr _ (fun it hi => hS.ok it ((List.mem_cons_of_mem _ (List.mem_cons_of_mem _ (List.mem_cons_of_mem _ (List.mem_cons_of_mem _ (List.mem_cons_of_mem _ hi))))))) hS.ext) (hvl.trans (baseS_len ..).symm)) ?_; clear hS; intro w hS
  refine sv (yNot rfl) <| nil <| cwQ ?_
  refine cond rfl (fun c40 => ?_) (fun c40 => ?_)
  ·
   have hhas : hasS (baseS t now) v = false := by cases hh : hasS (baseS t now) v with | false => rfl | true => rw [hh] at c40; cases c40
   refine seq <| region <| sv (yAsg rfl) <| nil <| cwQ ?_
   refine wp_ret (thenR ?_)
   refine retQ (res1 rfl rfl) ?_
   exact ⟨by rw [is_has hhas]; rfl, ov', baseS t now, _, .inr ⟨rfl, rfl⟩, hS.sub (.cons _ lrQ)⟩
  ·
   have hhas : hasS (baseS t now) v = true := by cases hh : hasS (baseS t now) v with | true => rfl | false => rw [hh] at c40; cases c40
   refine skip <| cwQ <| seq <| region <| sv (yMove h0) <| sv (yMove h1) ?_
   refine scall call76 (.cons rfl (.cons rfl .nil)) (c_right ⟨cv, ag, cg, ak, ck, ae, ce, aw, cw, ax, cx, hS.at bk, RTable.stays _ _ _ _ hS.ext hT, hG.ext RGauge.stays hS.ext, hC.ext RCtr.stays hS.ext, hF.ext RFct.stays hS.ext, sl_spans (hS.row (.slice aw t.ticks.toNat cw)) (tidesS_len ..) (lbd_i64 (tides_lbd hok)), sl_ints (hS.row (.slice ax t.ctrs.length cx)) (curS_len ..) (cur_i64 hok)⟩ hok (hg.ext hS.ext) (hvr _ (fun it hi => hS.ok it ((List.mem_cons_of_mem _ (List.mem_cons_of_mem _ (List.mem_cons_of_mem _ (List.mem_cons_of_mem _ (List.mem_cons_of_mem _ hi))))))) hS.ext) hvl) ?_
   rintro _ w ⟨rv, rfl, hM⟩; replace hS := hS.call1 hM; clear hM
   refine sv (yMove rfl) <| sv (yExt rfl rfl) <| sv (yExt rfl rfl) <| sv (yAsg rfl) <| sv (yAsg rfl) <| nil <| cwQ <| seq <| region ?_
   refine sv (yMove rfl) <| sv (yMove h0) ?_
   refine scV hS call119 (.cons rfl .nil) (c_needS ⟨cv, ag, cg, ak, ck, ae, ce, aw, cw, ax, cx, hS.at bk, RTable.stays _ _ _ _ hS.ext hT, hG.ext RGauge.stays hS.ext, hC.ext RCtr.stays hS.ext, hF.ext RFct.stays hS.ext, sl_spans (hS.row (.slice aw t.ticks.toNat cw)) (tidesS_len ..) (lbd_i64 (tides_lbd hok)), sl_ints (hS.row (.slice ax t.ctrs.length cx)) (curS_len ..) (cur_i64 hok)⟩ hok) ?_; clear hS; intro w hS
   refine sv (yGeq rfl rfl) <| sv (yAsg rfl) <| nil <| cwQ <| wp_ret <| retQ (res1 rfl rfl) ?_
   exact ⟨by rw [is_all hrate hhas]; rfl, ov', baseS t now, _, .inr ⟨rfl, rfl⟩, hS.sub (.cons _ (.cons _ lrQ))⟩
end Go.Proofs.YtgidbailiababaaGreatDoor

/- part S20 -/
namespace Bx
open Go Go.RowKit
theorem ruled_perm {w0 w : World} {E : TypeId} {a b c d p q r s x nr : Item} (h : StX [] w0 w (nr :: p :: a :: b :: c :: d :: q :: r :: s :: x :: [])) : StX [] w0 w (q :: nr :: r :: s :: p :: rowI (.slice none 0 0) E 1 0 [] :: x :: []) := by
  have h1 : StX [] w0 w [nr, p, q, r, s, x] := h.sub (.cons_cons _ (.cons_cons _ (.cons _ (.cons _ (.cons _ (.cons _ (List.Sublist.refl _)))))))
  have h2 : StX [] w0 w [rowI (.slice none 0 0) E 1 0 [], nr, p, q, r, s, x] := h1.nilrow E 1
  refine h2.perm ?_
  refine List.Perm.trans (l₂ := q :: ([rowI (.slice none 0 0) E 1 0 [], nr, p] ++ [r, s, x])) (List.perm_middle (l₁ := [_, _, _])) (List.Perm.cons _ ?_)
  refine List.Perm.trans (l₂ := nr :: ([rowI (.slice none 0 0) E 1 0 []] ++ [p, r, s, x])) (List.perm_middle (l₁ := [_])) (List.Perm.cons _ ?_)
  refine List.Perm.trans (l₂ := r :: ([rowI (.slice none 0 0) E 1 0 [], p] ++ [s, x])) (List.perm_middle (l₁ := [_, _])) (List.Perm.cons _ ?_)
  refine List.Perm.trans (l₂ := s :: ([rowI (.slice none 0 0) E 1 0 [], p] ++ [x])) (List.perm_middle (l₁ := [_, _])) (List.Perm.cons _ ?_)
  exact List.Perm.swap _ _ _
theorem ruled_in {w0 w : World} {b k r t x p q s : Item} (h : StX [] w0 w (b :: k :: r :: t :: x :: p :: q :: s :: [])) : StX [] w0 w (k :: r :: t :: x :: (b :: p :: q :: s :: [])) :=
  h.perm (List.perm_middle (l₁ := [k, r, t, x]) (l₂ := [p, q, s]) (a := b)).symm
theorem ruled_back1 {w0 w : World} {b k r t x p q s : Item} (h : StX [] w0 w (k :: r :: t :: x :: b :: p :: q :: s :: [])) : StX [] w0 w (k :: r :: t :: x :: p :: q :: s :: []) :=
  h.sub (.cons_cons _ (.cons_cons _ (.cons_cons _ (.cons_cons _ (.cons _ (List.Sublist.refl _))))))
theorem ruled_back2 {w0 w : World} {c b k r t x p q s : Item} (h : StX [] w0 w (c :: k :: r :: t :: x :: b :: p :: q :: s :: [])) : StX [] w0 w (k :: r :: t :: x :: p :: q :: s :: []) :=
  ruled_back1 (h.sub (.cons _ (List.Sublist.refl _)))
section
variable {t : Sgt} {now th : Int}
theorem rul_yes {k : Nat} (h : (!isS t now ((posS t th).getD k [])) = true) : rulL t now th (k + 1) = rulL t now th k ++ [(k : Int)] := by
  unfold rulL
  rw [List.range_succ, List.filter_append, List.map_append]
  simp only [List.filter_cons, List.filter_nil, h, if_true, List.map_cons, List.map_nil]
theorem rul_no {k : Nat} (h : isS t now ((posS t th).getD k []) = true) : rulL t now th (k + 1) = rulL t now th k := by
  unfold rulL
  rw [List.range_succ, List.filter_append, List.map_append]
  simp only [List.filter_cons, List.filter_nil, h, Bool.not_true, Bool.false_eq_true, if_false, List.map_nil, List.append_nil]
theorem rul_le {k : Nat} : (rulL t now th k).length ≤ k := by
  unfold rulL
  rw [List.length_map]
  have := List.length_filter_le (fun i => !isS t now ((posS t th).getD i [])) (List.range k)
  rwa [List.length_range] at this
theorem rul_i64 {k : Nat} (hk : k ≤ 1000 := by omega) : ∀ x ∈ rulL t now th k, I64 x := fun x hx => by
  obtain ⟨i, hi, rfl⟩ := List.mem_map.1 hx
  have := List.mem_range.1 (List.mem_filter.1 hi).1
  exact ⟨by omega, by omega⟩
theorem pos_get {k : Nat} (h : k < (posS t th).length) : (posS t th)[k]? = some ((posS t th).getD k []) := by simp [h]
theorem pos_ok (h : SgOk t) {v : List Int} (hv : v ∈ posS t th) : v.length = t.ticks.toNat ∧ ∀ x ∈ v, Bd x (-200000) 200000 := by
  obtain ⟨b, hb, rfl⟩ : ∃ b ∈ boxS t th, v = highB b := by
    unfold posS at hv
    rw [posK_eq] at hv
    obtain ⟨i, hi, rfl⟩ := List.mem_map.1 hv
    exact ⟨_, List.mem_of_getElem? (boxAt_get (keepK_lt hi)), rfl⟩
  refine ⟨(high_len hb).1, fun x hx => ?_⟩
  have h1 := (box_is h hb).2
  have h2 := ((isS_iff th (high_len hb).1).1 h1).2.1
  obtain ⟨i, hi, rfl⟩ := List.getElem_of_mem hx
  have h3 := h2.2 i (by rw [← h2.1]; exact hi)
  have h4 := base_sbd h th i
  have e : (highB b).getD i 0 = (highB b)[i] := by simp [hi]
  rw [e, spn_at (baseS_get (by rw [← (high_len hb).1]; exact hi))] at h3
  unfold SBd at h4
  exact ⟨by omega, by omega⟩
end
end Bx

/- part Sx9 -/
namespace Go.Proofs.YtgidbailiababaaGreatDoor
open Go Bx Go.Proofs.Tryz
set_option maxHeartbeats 4000000 in
theorem c_Ruled {t : Sgt} {cv : Value} {ag ak ae : Option Addr} {cg ck ce : Nat} {now th : Int} {w0 : World} (h : RSgt w0 (scQ t cv ag ak ae cg ck ce) t) (hg : Glb w0) (hI : I64 now) (hT0 : I64 th) : CE Tryz.prog 33 #[.agg (scQ t cv ag ak ae cg ck ce).toArray, .int .i64 th, .int .i64 now] w0 (fun u w' => ∃ v its, u = .tuple #[v, .int .i64 (rulR t now th).2] ∧ (∀ w2 : World, (∀ it ∈ its, it.ok w2) → Sl w2 1 RInt v ((rulR t now th).1)) ∧ St w0 w' [packI its]) := by
 obtain ⟨hT, hG, hw64, hf64, hk64, hC, hF, hl64, hm64, hr64, hq64⟩ := RSgt.parts h
 refine enter func33 rfl ntmps33 rfl ?_
 have hS := St.start w0
 refine seq <| region ?_
 refine sbox hS rfl rfl ?_; clear hS; intro b3 w hS
 refine sv (yAsg rfl) <| sv (yAsg rfl) <| nil <| cwQ <| seq <| region <| sv (yLdBA rfl isAgg29 sizeOf29 (hS.at _) rfl rfl) <| sv (yMove rfl) ?_
 refine scall call63 (.cons rfl (.cons rfl .nil)) (c_with (h.ext hS.ext) hT0) ?_
 rintro _ w (⟨he, rfl, hE⟩ | ⟨he, bk, aw, cw, ax, cx, rfl, hM⟩)
 ·
  replace hS := hS.step hE; clear hE
  refine sv (yMove rfl) <| sv (yExt rfl rfl) <| sv (yExt rfl rfl) <| sv (yAsg rfl) <| sv (yAsg rfl) <| nil <| cwQ <| seq <| seq ?_
  refine region <| sv (yMove rfl) <| sv (yNeq rfl rfl) <| nil <| cwQ ?_
  refine cond rfl (fun c19 => ?_) (fun c19 => ?_)
  ·
   simp only [BS, ne_eq] at c19
   refine seq <| region <| sv (yMove rfl) <| sv (yAsg rfl) <| sv (yAsg rfl) <| nil <| cwQ ?_
   refine wp_ret (thenR ?_)
   refine retQ (res2 rfl rfl rfl) ?_
   have hE : rulE t now th = askE t th := by unfold rulE; rw [if_pos he]
   have hf : rulR t now th = ([], askE t th) := by unfold rulR; rw [hE, if_pos he]
   rw [hf]
   exact ⟨_, [], rfl, fun _ _ => sl_none, its0 hS⟩
  ·
   simp only [BS, ne_eq] at c19
   exact absurd c19 he
 ·
  replace hS := hS.call hM; clear hM
  replace hS : StX [] w0 w [blk bk (knQ t th cv ag ak ae cg ck ce aw cw ax cx (.slice none 0 0)) 123, rowI (.slice aw t.ticks.toNat cw) 74 2 t.ticks.toNat ((tidesS t).flatMap spanC), rowI (.slice ax t.ctrs.length cx) 3 1 t.ctrs.length ((curS t th).flatMap Bx.encI), blk b3 (scQ t cv ag ak ae cg ck ce) 29] := hS
  obtain ⟨hok, hth⟩ := askE_ok he
  refine sv (yMove rfl) <| sv (yExt rfl rfl) <| sv (yExt rfl rfl) <| sv (yAsg rfl) <| sv (yAsg rfl) <| nil <| cwQ <| seq <| seq ?_
  refine region <| sv (yMove rfl) <| sv (yNeq rfl rfl) <| nil <| cwQ ?_
  refine cond rfl (fun c19 => ?_) (fun c19 => ?_)
  ·
   exact absurd c19 (by decide)
  ·
   refine skip <| cwQ <| seq <| region <| sv (yLdBA rfl isAgg29 sizeOf29 (hS.at _) rfl rfl) <| sv (yMove rfl) ?_
   refine scall call63 (.cons rfl (.cons rfl .nil)) (c_with (h.ext hS.ext) hI) ?_
   rintro _ w (⟨he2, rfl, hE⟩ | ⟨he2, bk2, aw2, cw2, ax2, cx2, rfl, hM⟩)
   ·
    replace hS := hS.step hE; clear hE
    refine sv (yMove rfl) <| sv (yExt rfl rfl) <| sv (yExt rfl rfl) <| sv (yAsg rfl) <| sv (yAsg rfl) <| nil <| cwQ <| seq <| seq ?_
    refine region <| sv (yMove rfl) <| sv (yNeq rfl rfl) <| nil <| cwQ ?_
    refine cond rfl (fun c28 => ?_) (fun c28 => ?_)
    ·
     simp only [BS, ne_eq] at c28
     refine seq <| region <| sv (yMove rfl) <| sv (yAsg rfl) <| sv (yAsg rfl) <| nil <| cwQ ?_
     refine wp_ret (thenR ?_)
     refine retQ (res2 rfl rfl rfl) ?_
     have hE : rulE t now th = askE t now := by unfold rulE; rw [if_neg (fun k => k he), if_pos he2]
     have hf : rulR t now th = ([], askE t now) := by unfold rulR; rw [hE, if_pos he2]
     rw [hf]
     exact ⟨_, [], rfl, fun _ _ => sl_none, its0 hS⟩
    ·
     simp only [BS, ne_eq] at c28
     exact absurd c28 he2
   ·
    replace hS := hS.call hM; clear hM
    replace hS : StX [] w0 w [blk bk2 (knQ t now cv ag ak ae cg ck ce aw2 cw2 ax2 cx2 (.slice none 0 0)) 123, rowI (.slice aw2 t.ticks.toNat cw2) 74 2 t.ticks.toNat ((tidesS t).flatMap spanC), rowI (.slice ax2 t.ctrs.length cx2) 3 1 t.ctrs.length ((curS t now).flatMap Bx.encI), blk bk (knQ t th cv ag ak ae cg ck ce aw cw ax cx (.slice none 0 0)) 123, rowI (.slice aw t.ticks.toNat cw) 74 2 t.ticks.toNat ((tidesS t).flatMap spanC), rowI (.slice ax t.ctrs.length cx) 3 1 t.ctrs.length ((curS t th).flatMap Bx.encI), blk b3 (scQ t cv ag ak ae cg ck ce) 29] := hS
    obtain ⟨-, hnow⟩ := askE_ok he2
    refine sv (yMove rfl) <| sv (yExt rfl rfl) <| sv (yExt rfl rfl) <| sv (yAsg rfl) <| sv (yAsg rfl) <| nil <| cwQ <| seq <| seq ?_
    refine region <| sv (yMove rfl) <| sv (yNeq rfl rfl) <| nil <| cwQ ?_
    refine cond rfl (fun c28 => ?_) (fun c28 => ?_)
    ·
     exact absurd c28 (by decide)
    ·
     refine skip <| cwQ <| seq <| seq <| region <| sv (yMove rfl) ?_
     replace hS : StX [] w0 w (blk bk (knQ t th cv ag ak ae cg ck ce aw cw ax cx (.slice none 0 0)) 123 :: rowI (.slice aw t.ticks.toNat cw) 74 2 t.ticks.toNat ((tidesS t).flatMap spanC) :: rowI (.slice ax t.ctrs.length cx) 3 1 t.ctrs.length ((curS t th).flatMap Bx.encI) :: blk bk2 (knQ t now cv ag ak ae cg ck ce aw2 cw2 ax2 cx2 (.slice none 0 0)) 123 :: rowI (.slice aw2 t.ticks.toNat cw2) 74 2 t.ticks.toNat ((tidesS t).flatMap spanC) :: rowI (.slice ax2 t.ctrs.length cx2) 3 1 t.ctrs.length ((curS t now).flatMap Bx.encI) :: blk b3 (scQ t cv ag ak ae cg ck ce) 29 :: []) := hS.perm (List.perm_append_comm_assoc [_, _, _] [_, _, _] [_])
     refine scall call67 (.cons rfl .nil) (c_possible h hok hth hg (.inl ⟨rfl, rfl, rfl⟩) ((hS.nilrow 74 2).perm (List.Perm.swap _ _ _))) ?_
     rintro uv w ⟨ov1, its, hit, hel, hM⟩; clear hS; have hS := hM; clear hM
     have hbn : (posS t th).length ≤ 625 := Nat.le_trans posK_le (Nat.le_trans boxL_len (cho_bd hok))
     obtain ⟨au, cu, rfl⟩ : ∃ au cu, uv = .slice au (posS t th).length cu := by
      obtain ⟨au, cu, e, -⟩ := hit w (fun it hi => hS.ok (packI its) (by simp) it hi)
      exact ⟨au, cu, by rw [e, List.length_map]⟩
     replace hS := ruled_perm (E := 3) (hS.nilrow 74 2)
     refine sv (yLen rfl underlying45) <| sv (yMove rfl) <| nil <| cwQ <| block <| loop (fun f w zz => ∃ (k : Nat) (pv ov : Value) (os : List Span) (mo : Nat), f 6 = pv ∧ f 9 = ptQ bk2 ∧ f 31 = .slice au (posS t th).length cu ∧ f 32 = .int .i64 ((posS t th).length : Int) ∧ f 33 = .int .i64 (k : Int) ∧ StX [] w0 w (blk bk2 (knQ t now cv ag ak ae cg ck ce aw2 cw2 ax2 cx2 ov) 123 :: rowI (ov) 74 2 mo ((os).flatMap spanC) :: rowI (.slice aw2 t.ticks.toNat cw2) 74 2 t.ticks.toNat ((tidesS t).flatMap spanC) :: rowI (.slice ax2 t.ctrs.length cx2) 3 1 t.ctrs.length ((curS t now).flatMap Bx.encI) :: packI its :: rowI (pv) 3 1 (rulL t now th k).length ((rulL t now th k).flatMap Bx.encI) :: blk b3 (scQ t cv ag ak ae cg ck ce) 29 :: []) ∧ (k ≤ (posS t th).length) ∧ ((os = [] ∧ mo = 0 ∧ ov = .slice none 0 0) ∨ (os = baseS t now ∧ mo = t.ticks.toNat)) ∧ zz = (posS t th).length - k) _ ⟨_, rfl, 0, _, _, [], 0, rfl, rfl, rfl, rfl, rfl, hS, (Nat.zero_le _), (.inl ⟨rfl, rfl, rfl⟩), rfl⟩ ?_
     clear hS
     rintro f w _ ⟨k, pv, ov, os, mo, h6, h9, h31, h32, h33, hS, hk, hown, rfl⟩
     refine seq <| region <| sv (yLss h33 h32) <| nil <| cwQ <| seq ?_
     refine cond rfl (fun c34 => ?_) (fun c34 => ?_)
     ·
      simp only [BS, ne_eq] at c34
      have hkn : k < (posS t th).length := by omega
      obtain ⟨vi, hvi⟩ := hel k hkn
      obtain ⟨⟨gu, cpu, heu, hcu⟩, hvs⟩ := hvi w (fun it hi => hS.ok (packI its) (by simp) it hi)
      obtain ⟨avk, cvk, rfl, -⟩ := id hvs
      have hau : au = some ⟨gu, 0, none⟩ := by cases heu; rfl
      have hrl : (rulL t now th k).length ≤ k := rul_le
      have hpl := pos_ok hok (List.mem_of_getElem? (pos_get hkn))
      refine skip <| cwQ <| seq <| block <| seq <| region <| sv (yMove h33) <| sv (yIxQ h31 hau h33 runUnderlying45 sizeOf41) <| sv (yLdA rfl isAgg41 sizeOf41 hcu rfl) ?_
      refine salloc hS zeroValue41 rfl ?_; clear hS; intro b11 w hS
      refine sv (yAsg rfl) ?_
      refine sst hS rfl rfl sizeOf41 rfl rfl rfl rfl ?_; clear hS; intro w hS
      refine nil <| cwQ <| seq <| region ?_
      replace hS := ruled_in hS
      refine sv (yMove h9) <| sv (fa41_1 rfl) <| sv (yLdB rfl isAgg39 (hS.at _) rfl) ?_
      refine scall call70 (.cons rfl (.cons rfl .nil)) (c_is (v := ((posS t th).getD k [])) h hok hnow hg hown hS (fun w2 hi2 _ => (hvi w2 (fun it hi => hi2 (packI its) (by simp) it hi)).2) hpl.1 hpl.2) ?_
      rintro _ w ⟨rfl, ov', os', mo', hown', hM⟩; clear hS; have hS := hM; clear hM
      refine sv (yNot rfl) <| nil <| cwQ ?_
      refine cond rfl (fun c42 => ?_) (fun c42 => ?_)
      ·
       have hisv : isS t now ((posS t th).getD k []) = false := by cases hh : isS t now ((posS t th).getD k []) with | false => rfl | true => rw [hh] at c42; cases c42
       refine region <| sv (yMove h6) <| sv (yMove rfl) ?_
       refine sbslice hS underlying39 sizeOf3 rfl zeroValue3 rfl (.cons rfl rfl .nil) rfl ?_; clear hS; intro b45 w hS
       refine sapp (bytes := 8) (size := 1) (v := pv) (m := 1) hS rfl rfl underlying39 ti3 rfl rfl rfl rfl (by decide) (blk_cells (hS.at _)) rfl rfl (by omega) (by omega) ?_; clear hS; intro v46 w hS
       refine sv (yAsg rfl) <| nil <| cwQ <| region <| sv (yAdd h33 rfl ⟨by omega, by omega⟩) <| sv (yMove rfl) <| nil ?_
       exact ⟨_, _, rfl, ⟨k + 1, _, ov', os', mo', rfl, h9, h31, h32, rfl, (by rw [rul_yes (by rw [hisv]; rfl), List.flatMap_append, List.length_append]; exact ruled_back2 hS), (by omega), (hown'), rfl⟩, by omega⟩
      ·
       have hisv : isS t now ((posS t th).getD k []) = true := by cases hh : isS t now ((posS t th).getD k []) with | true => rfl | false => rw [hh] at c42; cases c42
       refine skip <| cwQ <| region <| sv (yAdd h33 rfl ⟨by omega, by omega⟩) <| sv (yMove rfl) <| nil ?_
       exact ⟨_, _, rfl, ⟨k + 1, _, ov', os', mo', h6, h9, h31, h32, rfl, (by rw [rul_no hisv]; exact ruled_back1 hS), (by omega), (hown'), rfl⟩, by omega⟩
     ·
      simp only [BS, ne_eq] at c34
      obtain rfl : k = (posS t th).length := by omega
      refine exit <| cwQ <| seq <| region <| sv (yMove h6) <| sv (yAsg rfl) <| sv (yAsg rfl) <| nil <| cwQ ?_
      refine wp_ret <| retQ (res2 rfl rfl rfl) ?_
      have hE : rulE t now th = 0 := by unfold rulE; rw [if_neg (fun k => k he), if_neg (fun k => k he2)]
      have hf : rulR t now th = (rulL t now th (posS t th).length, 0) := by unfold rulR; rw [hE, if_neg (by decide)]
      rw [hf]
      exact ⟨_, [rowI (pv) 3 1 (rulL t now th (posS t th).length).length ((rulL t now th (posS t th).length).flatMap Bx.encI)], rfl, fun w2 hi => sl_ints (hi (rowI (pv) 3 1 (rulL t now th (posS t th).length).length ((rulL t now th (posS t th).length).flatMap Bx.encI)) (by simp)) rfl rul_i64, its1 (hS.sub (.cons _ (.cons _ (.cons _ (.cons _ (.cons _ lrQ))))))⟩
end Go.Proofs.YtgidbailiababaaGreatDoor

/- part Sx11 -/
namespace Go.Proofs.YtgidbailiababaaGreatDoor
open Go Bx Go.Proofs.Tryz
set_option maxHeartbeats 2000000 in
theorem c_Tube {t : Sgt} {cv : Value} {ag ak ae : Option Addr} {cg ck ce : Nat} {fi mi : Int} {w0 : World} (h : RSgt w0 (scQ t cv ag ak ae cg ck ce) t) (hg : Glb w0) (hF0 : I64 fi) (hM0 : I64 mi) : CE Tryz.prog 41 #[.agg (scQ t cv ag ak ae cg ck ce).toArray, .int .i64 fi, .int .i64 mi] w0 (fun u w' => ∃ v its, u = .tuple #[v, .int .i64 (tubR t fi mi).2] ∧ (∀ w2 : World, (∀ it ∈ its, it.ok w2) → Sl w2 2 RSpan v ((tubR t fi mi).1)) ∧ St w0 w' [packI its]) := by
 obtain ⟨hT, hG, hw64, hf64, hk64, hC, hF, hl64, hm64, hr64, hq64⟩ := RSgt.parts h
 have hI : I64 0 := ⟨by decide, by decide⟩
 have hask : askE t 0 = (checkS t).2.2 := by
  unfold askE
  split
  ·
   rfl
  ·
   next h => rw [if_neg (by decide)]; exact (Decidable.not_not.1 h).symm
 refine enter func41 rfl ntmps41 rfl ?_
 have hS := St.start w0
 refine seq <| region ?_
 refine sbox hS rfl rfl ?_; clear hS; intro b3 w hS
 refine sv (yAsg rfl) <| sv (yAsg rfl) <| nil <| cwQ <| seq <| region <| sv (yLdBA rfl isAgg29 sizeOf29 (hS.at _) rfl rfl) ?_
 refine scall call63 (.cons rfl (.cons rfl .nil)) (c_with (h.ext hS.ext) hI) ?_
 rintro _ w (⟨he, rfl, hE⟩ | ⟨he, bk, aw, cw, ax, cx, rfl, hM⟩)
 ·
  replace hS := hS.step hE; clear hE
  refine sv (yMove rfl) <| sv (yExt rfl rfl) <| sv (yExt rfl rfl) <| sv (yAsg rfl) <| sv (yAsg rfl) <| nil <| cwQ <| seq <| block ?_
  refine seq <| region <| sv (yMove rfl) <| sv (yNeq rfl rfl) <| sv (yAsg rfl) <| nil <| cwQ ?_
  refine cond rfl (fun c15 => ?_) (fun c15 => ?_)
  ·
   simp only [BS, ne_eq] at c15
   refine seq <| region <| sv (yMove rfl) <| sv (yAsg rfl) <| sv (yAsg rfl) <| nil <| cwQ ?_
   refine wp_ret (blockR (thenR ?_))
   refine retQ (res2 rfl rfl rfl) ?_
   have hE : tubE t fi mi = askE t 0 := by unfold tubE; rw [← hask, if_pos he]
   have hf : tubR t fi mi = ([], askE t 0) := by unfold tubR; rw [hE, if_pos he]
   rw [hf]
   exact ⟨_, [], rfl, fun _ _ => sl_none, its0 hS⟩
  ·
   simp only [BS, ne_eq] at c15
   exact absurd c15 he
 ·
  replace hS := hS.call hM; clear hM
  replace hS : StX [] w0 w [blk bk (knQ t 0 cv ag ak ae cg ck ce aw cw ax cx (.slice none 0 0)) 123, rowI (.slice aw t.ticks.toNat cw) 74 2 t.ticks.toNat ((tidesS t).flatMap spanC), rowI (.slice ax t.ctrs.length cx) 3 1 t.ctrs.length ((curS t 0).flatMap Bx.encI), blk b3 (scQ t cv ag ak ae cg ck ce) 29] := hS
  obtain ⟨hok, hnow⟩ := askE_ok he
  have htk := hok.tk
  have hnc := hok.nc
  have hnf := hok.nf
  refine sv (yMove rfl) <| sv (yExt rfl rfl) <| sv (yExt rfl rfl) <| sv (yAsg rfl) <| sv (yAsg rfl) <| nil <| cwQ <| seq <| block ?_
  refine seq <| region <| sv (yMove rfl) <| sv (yNeq rfl rfl) <| sv (yAsg rfl) <| nil <| cwQ ?_
  refine cond rfl (fun c15 => ?_) (fun c15 => ?_)
  ·
   exact absurd c15 (by decide)
  ·
   refine seq ?_
   rcases Bool.eq_false_or_eq_true (outB fi 0 (t.fcs.length - 1)) with hob | hob
   ·
    refine region <| sv (yMove rfl) <| sv (fa29_6 rfl) <| sv (yLdB rfl isAgg27 (hS.at _) rfl) <| sv (yLen rfl underlying27) <| sv (ySub rfl rfl ⟨by omega, by omega⟩) ?_
    refine scV hS call53 (.cons rfl (.cons rfl (.cons rfl .nil))) c_outS ?_; clear hS; intro w hS
    refine sv (yMove rfl) ?_
    refine ungn (v := .bool (outB fi 0 (t.fcs.length - 1))) rfl rfl rfl (by rw [hob]; simp) ?_
    refine ungn (v := .bool (outB fi 0 (t.fcs.length - 1))) rfl rfl rfl (by rw [hob]; simp) ?_
    refine ungn (v := .bool (outB fi 0 (t.fcs.length - 1))) rfl rfl rfl (by rw [hob]; simp) ?_
    refine ungn (v := .bool (outB fi 0 (t.fcs.length - 1))) rfl rfl rfl (by rw [hob]; simp) ?_
    refine ungn (v := .bool (outB fi 0 (t.fcs.length - 1))) rfl rfl rfl (by rw [hob]; simp) ?_
    refine ungn (v := .bool (outB fi 0 (t.fcs.length - 1))) rfl rfl rfl (by rw [hob]; simp) ?_
    refine ungn (v := .bool (outB fi 0 (t.fcs.length - 1))) rfl rfl rfl (by rw [hob]; simp) ?_
    refine ungn (v := .bool (outB fi 0 (t.fcs.length - 1))) rfl rfl rfl (by rw [hob]; simp) ?_
    refine ungn (v := .bool (outB fi 0 (t.fcs.length - 1))) rfl rfl rfl (by rw [hob]; simp) ?_
    refine ungn (v := .bool (outB fi 0 (t.fcs.length - 1))) rfl rfl rfl (by rw [hob]; simp) ?_
    refine sv (yPick (v := .bool (outB fi 0 (t.fcs.length - 1))) (B := outB fi 0 (t.fcs.length - 1)) rfl (fun _ => by rw [hob]; rfl) (fun h => absurd (hob.symm.trans h) (by decide))) ?_
    refine sv (yAsg rfl) <| nil <| cwQ ?_
    refine cond rfl (fun c19 => ?_) (fun c19 => ?_)
    ·
     refine seq <| region <| sv (yAsg rfl) <| sv (yAsg rfl) <| nil <| cwQ ?_
     refine wp_ret (blockR (thenR ?_))
     refine retQ (res2 rfl rfl rfl) ?_
     have hE : tubE t fi mi = 4 := by unfold tubE; rw [← hask, if_neg (fun k => k he), hob]; rfl
     have hf : tubR t fi mi = ([], 4) := by unfold tubR; rw [hE, if_pos (by decide)]
     rw [hf]
     exact ⟨_, [], rfl, fun _ _ => sl_none, its0 hS⟩
    ·
     rw [hob] at c19; cases c19
   ·
    obtain ⟨hi0, hi1⟩ := outB_false.1 hob
    have hfl : fi.toNat < t.fcs.length := by omega
    have hfo := hok.fcts hfl
    have hnm := hfo.nm
    obtain ⟨bf, of, csf, haf, -, hcf, hRf, -⟩ := sl_at hF (fct_get hfl)
    obtain ⟨mv, rfl, hf1, hf2, hf3, hMm⟩ := id hRf
    obtain ⟨am, cm, rfl, hmcap, hmmx, -⟩ := id hMm
    refine region <| sv (yMove rfl) <| sv (fa29_6 rfl) <| sv (yLdB rfl isAgg27 (hS.at _) rfl) <| sv (yLen rfl underlying27) <| sv (ySub rfl rfl ⟨by omega, by omega⟩) ?_
    refine scV hS call53 (.cons rfl (.cons rfl (.cons rfl .nil))) c_outS ?_; clear hS; intro w hS
    refine sv (yMove rfl) <| ungo rfl rfl (congrArg Value.bool hob) <| sv (yMove rfl) <| ungo rfl rfl (congrArg Value.bool hob) <| sv (fa29_6 rfl) <| ungo rfl rfl (congrArg Value.bool hob) <| sv (yLdB rfl isAgg27 (hS.at _) rfl) <| ungo rfl rfl (congrArg Value.bool hob) <| sv (yMove rfl) ?_
    refine ungo rfl rfl (congrArg Value.bool hob) <| sv (yIxQ rfl haf (rfl.trans (congrArg (Value.int .i64) (show fi = ((fi.toNat : Nat) : Int) by omega))) runUnderlying27 sizeOf61) <| ungo rfl rfl (congrArg Value.bool hob) <| sv (fa61_3 rfl) <| ungo rfl rfl (congrArg Value.bool hob) <| sv (yLd rfl isAgg59 ((hcf.ext hS.ext).at (j := 3) rfl)) <| ungo rfl rfl (congrArg Value.bool hob) <| sv (yLen rfl underlying59) <| ungo rfl rfl (congrArg Value.bool hob) ?_
    refine sv (ySub rfl rfl ⟨by omega, by omega⟩) <| ungo rfl rfl (congrArg Value.bool hob) ?_
    refine scV hS call53 (.cons rfl (.cons rfl (.cons rfl .nil))) c_outS ?_; clear hS; intro w hS
    refine sv (yPick (v := .bool (outB mi 0 ((fct t.fcs fi.toNat).members.length - 1))) (B := outB fi 0 (t.fcs.length - 1)) rfl (fun h => absurd (hob.symm.trans h) (by decide)) (fun _ => rfl)) <| sv (yAsg rfl) <| nil <| cwQ ?_
    refine cond rfl (fun c19 => ?_) (fun c19 => ?_)
    ·
     refine seq <| region <| sv (yAsg rfl) <| sv (yAsg rfl) <| nil <| cwQ ?_
     refine wp_ret (blockR (thenR ?_))
     refine retQ (res2 rfl rfl rfl) ?_
     have hE : tubE t fi mi = 4 := by unfold tubE; rw [← hask, if_neg (fun k => k he), hob, c19]; rfl
     have hf : tubR t fi mi = ([], 4) := by unfold tubR; rw [hE, if_pos (by decide)]
     rw [hf]
     exact ⟨_, [], rfl, fun _ _ => sl_none, its0 hS⟩
    ·
     obtain ⟨hm0, hm1⟩ := outB_false.1 c19
     obtain ⟨mn, rfl⟩ : ∃ mn : Nat, mi = mn := ⟨mi.toNat, by omega⟩
     refine skip <| cwQ <| seq <| region <| sv (yMove rfl) <| sv (fa29_6 rfl) <| sv (yLdB rfl isAgg27 (hS.at _) rfl) <| sv (yMove rfl) <| sv (yIxQ rfl haf (rfl.trans (congrArg (Value.int .i64) (show fi = ((fi.toNat : Nat) : Int) by omega))) runUnderlying27 sizeOf61) ?_
     refine sv (yLdA rfl isAgg61 sizeOf61 (hcf.ext hS.ext) rfl) <| sv (yMove rfl) ?_
     refine scall call83 (.cons rfl (.cons rfl (.cons rfl .nil))) (c_tubeS (now := 0) ⟨cv, ag, cg, ak, ck, ae, ce, aw, cw, ax, cx, hS.at bk, RTable.stays _ _ _ _ hS.ext hT, hG.ext RGauge.stays hS.ext, hC.ext RCtr.stays hS.ext, hF.ext RFct.stays hS.ext, sl_spans (hS.row (.slice aw t.ticks.toNat cw)) (tidesS_len ..) (lbd_i64 (tides_lbd hok)), sl_ints (hS.row (.slice ax t.ctrs.length cx)) (curS_len ..) (cur_i64 hok)⟩ hok (hg.ext hS.ext) hfo (m := mn) (by omega) (hMm.ext RRow.stays hS.ext)) ?_
     rintro tv w hM; replace hS := hS.call1 hM; clear hM
     have htl := tubeS_lbd hok hfo (show mn < (fct t.fcs fi.toNat).members.length by omega)
     refine sv (yAsg rfl) <| sv (yAsg rfl) <| nil <| cwQ <| wp_ret <| retQ (res2 rfl rfl rfl) ?_
     have hE : tubE t fi mn = 0 := by unfold tubE; rw [← hask, if_neg (fun k => k he), hob, c19]; rfl
     have hf : tubR t fi mn = (tubeS t (fct t.fcs fi.toNat) (mem (fct t.fcs fi.toNat) mn), 0) := by unfold tubR; rw [hE, if_neg (by decide)]; rfl
     rw [hf]
     exact ⟨_, [rowI (tv) 74 2 t.ticks.toNat ((tubeS t (fct t.fcs fi.toNat) (mem (fct t.fcs fi.toNat) mn)).flatMap spanC)], rfl, fun w2 hi => sl_spans (hi (rowI (tv) 74 2 t.ticks.toNat ((tubeS t (fct t.fcs fi.toNat) (mem (fct t.fcs fi.toNat) mn)).flatMap spanC)) (by simp)) (tubeS_len ..) (lbd_i64 htl), its1 hS⟩
end Go.Proofs.YtgidbailiababaaGreatDoor

/- part Sx12 -/
namespace Go.Proofs.YtgidbailiababaaGreatDoor
open Go Bx Go.Proofs.Tryz
set_option maxHeartbeats 2000000 in
theorem c_someS {t : Sgt} {cv : Value} {ag ak ae : Option Addr} {cg ck ce : Nat} {now : Int} {w0 : World} (h : RSgt w0 (scQ t cv ag ak ae cg ck ce) t) (hg : Glb w0) (hI : I64 now) : CE Tryz.prog 93 #[.agg (scQ t cv ag ak ae cg ck ce).toArray, .int .i64 now] w0 (fun u w' => (smE t now ≠ 0 ∧ ∃ v, u = .tuple #[v, .int .i64 (smE t now)] ∧ Ext w0 w') ∨ (smE t now = 0 ∧ ∃ av cv2 ms ls hs, u = .tuple #[.slice av (boxS t now).length cv2, .int .i64 0] ∧ (ms.length = (boxS t now).length ∧ ls.length = (boxS t now).length ∧ hs.length = (boxS t now).length) ∧ St w0 w' [rowI (.slice av (boxS t now).length cv2) 115 9 (boxS t now).length (bxCs t.frm ((boxS t now).map Bo.mem) ms ls hs).flatten, packI (inI ms ((boxS t now).map Bo.mem)), packI (inI ls ((boxS t now).map lowB)), packI (inI hs ((boxS t now).map highB))])) := by
 obtain ⟨hT, hG, hw64, hf64, hk64, hC, hF, hl64, hm64, hr64, hq64⟩ := RSgt.parts h
 refine enter func93 rfl ntmps93 rfl ?_
 have hS := St.start w0
 refine seq <| region ?_
 refine sbox hS rfl rfl ?_; clear hS; intro b2 w hS
 refine sv (yAsg rfl) <| sv (yAsg rfl) <| nil <| cwQ <| seq <| region <| sv (yLdBA rfl isAgg29 sizeOf29 (hS.at _) rfl rfl) <| sv (yMove rfl) ?_
 refine scall call63 (.cons rfl (.cons rfl .nil)) (c_with (h.ext hS.ext) hI) ?_
 rintro _ w (⟨he, rfl, hE⟩ | ⟨he, bk, aw, cw, ax, cx, rfl, hM⟩)
 ·
  replace hS := hS.step hE; clear hE
  refine sv (yMove rfl) <| sv (yExt rfl rfl) <| sv (yExt rfl rfl) <| sv (yAsg rfl) <| sv (yAsg rfl) <| nil <| cwQ <| seq <| seq ?_
  refine region <| sv (yMove rfl) <| sv (yNeq rfl rfl) <| nil <| cwQ ?_
  refine cond rfl (fun c16 => ?_) (fun c16 => ?_)
  ·
   simp only [BS, ne_eq] at c16
   refine seq <| region <| sv (yMove rfl) <| sv (yAsg rfl) <| sv (yAsg rfl) <| nil <| cwQ ?_
   refine wp_ret (thenR ?_)
   refine retQ (res2 rfl rfl rfl) ?_
   have hf : smE t now = askE t now := by unfold smE; rw [if_pos he]
   exact .inl ⟨by rw [hf]; exact he, _, by rw [hf]; rfl, hS.ext⟩
  ·
   simp only [BS, ne_eq] at c16
   exact absurd c16 he
 ·
  replace hS := hS.call hM; clear hM
  replace hS : StX [] w0 w [blk bk (knQ t now cv ag ak ae cg ck ce aw cw ax cx (.slice none 0 0)) 123, rowI (.slice aw t.ticks.toNat cw) 74 2 t.ticks.toNat ((tidesS t).flatMap spanC), rowI (.slice ax t.ctrs.length cx) 3 1 t.ctrs.length ((curS t now).flatMap Bx.encI), blk b2 (scQ t cv ag ak ae cg ck ce) 29] := hS
  obtain ⟨hok, hnow⟩ := askE_ok he
  have htk := hok.tk
  have hnc := hok.nc
  have hnf := hok.nf
  refine sv (yMove rfl) <| sv (yExt rfl rfl) <| sv (yExt rfl rfl) <| sv (yAsg rfl) <| sv (yAsg rfl) <| nil <| cwQ <| seq <| seq ?_
  refine region <| sv (yMove rfl) <| sv (yNeq rfl rfl) <| nil <| cwQ ?_
  refine cond rfl (fun c16 => ?_) (fun c16 => ?_)
  ·
   exact absurd c16 (by decide)
  ·
   refine skip <| cwQ <| seq <| region <| sv (yMove rfl) ?_
   refine scall call64 (.cons rfl .nil) (c_boxes h hok hnow hg (.inl ⟨rfl, rfl, rfl⟩) ((hS.nilrow 74 2).perm (List.Perm.swap _ _ _))) ?_
   rintro bv w ⟨ov', ms, ls, hs, hl1, hl2, hl3, hM⟩; clear hS; have hS := hM; clear hM
   obtain ⟨av, cv2, rfl⟩ := row_shape (hS.row bv)
   have hbn : (boxS t now).length ≤ 625 := Nat.le_trans boxL_len (cho_bd hok)
   refine sv (yAsg rfl) <| nil <| cwQ <| seq <| seq <| region <| sv (yMove rfl) <| sv (yLen rfl underlying110) <| sv (yEql rfl rfl) ?_
   refine nil <| cwQ ?_
   refine cond rfl (fun c22 => ?_) (fun c22 => ?_)
   ·
    simp only [BS, ne_eq] at c22
    refine seq <| region <| sv (yAsg rfl) <| sv (yAsg rfl) <| nil <| cwQ ?_
    refine wp_ret (thenR ?_)
    refine retQ (res2 rfl rfl rfl) ?_
    have hf : smE t now = 9 := by unfold smE; rw [if_neg (fun k => k he), if_pos (by omega)]
    exact .inl ⟨by rw [hf]; decide, _, by rw [hf]; rfl, hS.ext⟩
   ·
    simp only [BS, ne_eq] at c22
    refine skip <| cwQ <| seq <| region <| sv (yMove rfl) <| sv (yAsg rfl) <| sv (yAsg rfl) <| nil <| cwQ ?_
    refine wp_ret <| retQ (res2 rfl rfl rfl) ?_
    have hf : smE t now = 0 := by unfold smE; rw [if_neg (fun k => k he), if_neg (by omega)]
    exact .inr ⟨hf, av, cv2, ms, ls, hs, rfl, ⟨hl1, hl2, hl3⟩, hS.sub (.cons_cons _ (.cons_cons _ (.cons_cons _ (.cons_cons _ (List.nil_sublist _)))))⟩
end Go.Proofs.YtgidbailiababaaGreatDoor

/- part S22 -/
namespace Bx
open Go Go.RowKit
def botK (l : List Int) (k : Nat) : Int := (l.take k).foldl min (l.getD 0 0)
def botL (l : List Int) : Int := botK l l.length
section
variable {l : List Int}
theorem topK_1 : topK l 1 = l.getD 0 0 := by
  unfold topK
  cases l with
  | nil => rfl
  | cons a l => simp
theorem botK_1 : botK l 1 = l.getD 0 0 := by
  unfold botK
  cases l with
  | nil => rfl
  | cons a l => simp
theorem topK_succ {k : Nat} (h : k < l.length) : topK l (k + 1) = max (topK l k) (l.getD k 0) := by
  unfold topK
  rw [take_snoc (show l[k]? = some (l.getD k 0) by simp [h]), List.foldl_append]; rfl
theorem botK_succ {k : Nat} (h : k < l.length) : botK l (k + 1) = min (botK l k) (l.getD k 0) := by
  unfold botK
  rw [take_snoc (show l[k]? = some (l.getD k 0) by simp [h]), List.foldl_append]; rfl
end
end Bx

/- part Sx13 -/
namespace Go.Proofs.YtgidbailiababaaGreatDoor
open Go Bx Go.Proofs.Tryz
set_option maxHeartbeats 1000000 in
theorem c_MaxI {v : Value} {l : List Int} {w0 : World} (hl : Sl w0 1 RInt v l) (h0 : 0 < l.length) : CV Tryz.prog 95 #[v] w0 (.int .i64 (topL l)) := by
 obtain ⟨a, ca, rfl, hac, ham, -⟩ := id hl
 obtain ⟨b0, o0, c0, ha0, -, hc0, hR0, -⟩ := sl_at hl (show l[0]? = some (l.getD 0 0) by simp [h0])
 obtain ⟨rfl, -⟩ := hR0
 refine enter func95 rfl ntmps95 rfl ?_
 have hS := St.start w0
 refine seq <| region <| sv (yAsg rfl) <| nil <| cwQ <| seq <| seq <| region <| sv (yMove rfl) ?_
 refine sv (yLen rfl underlying39) <| sv (yLss rfl rfl) <| nil <| cwQ ?_
 refine cond rfl (fun c7 => ?_) (fun c7 => ?_)
 ·
  simp only [BS, ne_eq] at c7
  exfalso; omega
 ·
  simp only [BS, ne_eq] at c7
  refine skip <| cwQ <| seq <| region <| sv (yMove rfl) <| sv (yIxQ rfl ha0 rfl runUnderlying39 sizeOf3) <| sv (yLd rfl isAgg3 (hc0.ext hS.ext).one) <| sv (yAsg rfl) <| nil ?_
  refine cwQ <| seq <| seq <| region <| sv (yAsg rfl) <| nil <| cwQ <| block <| loop (fun f w zz => ∃ (k : Nat), f 0 = .slice a l.length ca ∧ f 3 = .int .i64 (topK l k) ∧ f 4 = .int .i64 (k : Int) ∧ StX [] w0 w [] ∧ (1 ≤ k ∧ k ≤ l.length) ∧ zz = l.length - k) _ ⟨_, rfl, 1, rfl, (rfl.trans (congrArg (Value.int .i64) topK_1.symm)), rfl, hS, (⟨Nat.le_refl _, by omega⟩), rfl⟩ ?_
  clear hS
  rintro f w _ ⟨k, h0, h3, h4, hS, hk, rfl⟩
  refine seq <| seq <| region <| sv (yMove h4) <| sv (yMove h0) <| sv (yLen rfl underlying39) <| sv (yLss rfl rfl) <| nil <| cwQ ?_
  refine cond rfl (fun c15 => ?_) (fun c15 => ?_)
  ·
   simp only [BS, ne_eq] at c15
   have hkl : k < l.length := by omega
   obtain ⟨bx, ox, cx, hax, -, hcx, hRx, -⟩ := sl_at hl (show l[k]? = some (l.getD k 0) by simp [hkl])
   obtain ⟨rfl, -⟩ := hRx
   refine skip <| cwQ <| seq <| block <| region <| sv (yMove h3) <| sv (yMove h0) <| sv (yMove h4) <| sv (yIxQ rfl hax rfl runUnderlying39 sizeOf3) ?_
   refine sv (yLd rfl isAgg3 (hcx.ext hS.ext).one) <| sv (yMax rfl rfl) <| sv (yAsg rfl) <| nil <| cwQ <| region <| sv (yMove h4) <| sv (yAdd rfl rfl ⟨by omega, by omega⟩) <| sv (yAsg rfl) ?_
   refine nil ?_
   exact ⟨_, _, rfl, ⟨k + 1, h0, (rfl.trans (congrArg (Value.int .i64) (topK_succ hkl).symm)), rfl, hS, (by omega), rfl⟩, by omega⟩
  ·
   simp only [BS, ne_eq] at c15
   obtain rfl : k = l.length := by omega
   refine exit <| cwQ <| seq <| region <| sv (yMove h3) <| sv (yAsg rfl) <| nil <| cwQ <| wp_ret ?_
   exact retV (res1 rfl rfl) hS.ext
set_option maxHeartbeats 1000000 in
theorem c_MinI2 {v : Value} {l : List Int} {w0 : World} (hl : Sl w0 1 RInt v l) (h0 : 0 < l.length) : CV Tryz.prog 96 #[v] w0 (.int .i64 (botL l)) := by
 obtain ⟨a, ca, rfl, hac, ham, -⟩ := id hl
 obtain ⟨b0, o0, c0, ha0, -, hc0, hR0, -⟩ := sl_at hl (show l[0]? = some (l.getD 0 0) by simp [h0])
 obtain ⟨rfl, -⟩ := hR0
 refine enter func96 rfl ntmps96 rfl ?_
 have hS := St.start w0
 refine seq <| region <| sv (yAsg rfl) <| nil <| cwQ <| seq <| seq <| region <| sv (yMove rfl) ?_
 refine sv (yLen rfl underlying39) <| sv (yLss rfl rfl) <| nil <| cwQ ?_
 refine cond rfl (fun c7 => ?_) (fun c7 => ?_)
 ·
  simp only [BS, ne_eq] at c7
  exfalso; omega
 ·
  simp only [BS, ne_eq] at c7
  refine skip <| cwQ <| seq <| region <| sv (yMove rfl) <| sv (yIxQ rfl ha0 rfl runUnderlying39 sizeOf3) <| sv (yLd rfl isAgg3 (hc0.ext hS.ext).one) <| sv (yAsg rfl) <| nil ?_
  refine cwQ <| seq <| seq <| region <| sv (yAsg rfl) <| nil <| cwQ <| block <| loop (fun f w zz => ∃ (k : Nat), f 0 = .slice a l.length ca ∧ f 3 = .int .i64 (botK l k) ∧ f 4 = .int .i64 (k : Int) ∧ StX [] w0 w [] ∧ (1 ≤ k ∧ k ≤ l.length) ∧ zz = l.length - k) _ ⟨_, rfl, 1, rfl, (rfl.trans (congrArg (Value.int .i64) botK_1.symm)), rfl, hS, (⟨Nat.le_refl _, by omega⟩), rfl⟩ ?_
  clear hS
  rintro f w _ ⟨k, h0, h3, h4, hS, hk, rfl⟩
  refine seq <| seq <| region <| sv (yMove h4) <| sv (yMove h0) <| sv (yLen rfl underlying39) <| sv (yLss rfl rfl) <| nil <| cwQ ?_
  refine cond rfl (fun c15 => ?_) (fun c15 => ?_)
  ·
   simp only [BS, ne_eq] at c15
   have hkl : k < l.length := by omega
   obtain ⟨bx, ox, cx, hax, -, hcx, hRx, -⟩ := sl_at hl (show l[k]? = some (l.getD k 0) by simp [hkl])
   obtain ⟨rfl, -⟩ := hRx
   refine skip <| cwQ <| seq <| block <| region <| sv (yMove h3) <| sv (yMove h0) <| sv (yMove h4) <| sv (yIxQ rfl hax rfl runUnderlying39 sizeOf3) ?_
   refine sv (yLd rfl isAgg3 (hcx.ext hS.ext).one) <| sv (yMin rfl rfl) <| sv (yAsg rfl) <| nil <| cwQ <| region <| sv (yMove h4) <| sv (yAdd rfl rfl ⟨by omega, by omega⟩) <| sv (yAsg rfl) ?_
   refine nil ?_
   exact ⟨_, _, rfl, ⟨k + 1, h0, (rfl.trans (congrArg (Value.int .i64) (botK_succ hkl).symm)), rfl, hS, (by omega), rfl⟩, by omega⟩
  ·
   simp only [BS, ne_eq] at c15
   obtain rfl : k = l.length := by omega
   refine exit <| cwQ <| seq <| region <| sv (yMove h3) <| sv (yAsg rfl) <| nil <| cwQ <| wp_ret ?_
   exact retV (res1 rfl rfl) hS.ext
end Go.Proofs.YtgidbailiababaaGreatDoor

/- part S23 -/
namespace Bx
open Go Go.RowKit
def exC1 : Ctr := ⟨⟨#[109, 101, 116]⟩, 2, 100, 50⟩
def exC2 : Ctr := ⟨⟨#[111, 99, 101, 97, 110]⟩, 5, 200, 0⟩
def exF1 : Fct := ⟨0, 88, 100, [[1000, 1500, 2000], [500, 700, 900]]⟩
def exF2 : Fct := ⟨1, 90, 101, [[2500, 2600]]⟩
def exF3 : Fct := ⟨0, 94, 100, [[1200, 1800, 2600]]⟩
def exS : Sgt := ⟨⟨0, []⟩, [], 0, 100, 3, [exC1, exC2], [exF1, exF2, exF3], -500, 4000, 800, 1⟩
theorem exs_rs {w : World} {cv fv : Value} (hc : Sl w 4 RCtr cv [exC1, exC2]) (hf : Sl w 4 RFct fv [exF1, exF2, exF3]) : RSgt w [.int .i64 0, .slice none 0 0, .slice none 0 0, .int .i64 0, .int .i64 100, .int .i64 3, cv, fv, .int .i64 (-500), .int .i64 4000, .int .i64 800, .int .i64 1] exS :=
  ⟨_, _, _, _, rfl, ⟨_, rfl, by decide, sl_none⟩, sl_none, by decide, by decide, by decide, hc, hf, by decide, by decide, by decide, by decide⟩
theorem exs_pos : posR exS 95 = ([[3500, 2700, 2800]], 0) := by decide +kernel
theorem exs_rul : rulR exS 96 90 = ([0], 0) := by decide +kernel
theorem exs_tub : tubR exS 3 0 = ([], 4) := by decide +kernel
end Bx

/- part Sx14 -/
namespace Go.Proofs.YtgidbailiababaaGreatDoor
open Go Bx Go.Proofs.Tryz
set_option maxHeartbeats 1000000 in
theorem c_Ints {va vb : Value} {a b : List Int} {w0 : World} (ha : Sl w0 1 RInt va a) (hb : Sl w0 1 RInt vb b) : CV Tryz.prog 22 #[va, vb] w0 (.bool (decide (a = b))) := by
 obtain ⟨aa, ca, rfl, hacap, hamx, -⟩ := id ha
 obtain ⟨ab, cb, rfl, -⟩ := id hb
 refine enter func22 rfl ntmps22 rfl ?_
 have hS := St.start w0
 refine seq <| region <| sv (yAsg rfl) <| nil <| cwQ <| seq <| seq <| region <| sv (yMove rfl) ?_
 refine sv (yLen rfl underlying39) <| sv (yMove rfl) <| sv (yLen rfl underlying39) <| sv (yNeq rfl rfl) <| nil <| cwQ ?_
 refine cond rfl (fun c10 => ?_) (fun c10 => ?_)
 ·
  simp only [BS, ne_eq] at c10
  refine seq <| region <| sv (yAsg rfl) <| nil <| cwQ ?_
  refine wp_ret (thenR ?_)
  exact retV (res1 rfl (congrArg Value.bool (show false = decide (a = b) from (decide_eq_false (fun e => by rw [e] at c10; exact c10 rfl)).symm))) hS.ext
 ·
  simp only [BS, ne_eq] at c10
  have hl : a.length = b.length := by omega
  refine skip <| cwQ <| seq <| seq <| region <| sv (yAsg rfl) <| nil <| cwQ <| block ?_
  refine loop (fun f w zz => ∃ (k : Nat), f 0 = .slice aa a.length ca ∧ f 1 = .slice ab b.length cb ∧ f 5 = .int .i64 (k : Int) ∧ StX [] w0 w [] ∧ (k ≤ a.length) ∧ (∀ i, i < k → a[i]? = b[i]?) ∧ zz = a.length - k) _ ⟨_, rfl, 0, rfl, rfl, rfl, hS, (Nat.zero_le _), (fun i hi => absurd hi (Nat.not_lt_zero _)), rfl⟩ ?_
  clear hS
  rintro f w _ ⟨k, h0, h1, h5, hS, hk, hA, rfl⟩
  refine seq <| seq <| region <| sv (yMove h5) <| sv (yMove h0) <| sv (yLen rfl underlying39) <| sv (yLss rfl rfl) <| nil <| cwQ ?_
  refine cond rfl (fun c14 => ?_) (fun c14 => ?_)
  ·
   simp only [BS, ne_eq] at c14
   have hkl : k < a.length := by omega
   obtain ⟨bx, ox, cx, hax, hlx, hcx, hRx, -⟩ := sl_at ha (show a[k]? = some (a.getD k 0) by simp [hkl])
   obtain ⟨rfl, -⟩ := hRx
   obtain ⟨by0, oy, cy, hay, hly, hcy, hRy, -⟩ := sl_at hb (show b[k]? = some (b.getD k 0) by simp [show k < b.length by omega])
   obtain ⟨rfl, -⟩ := hRy
   refine skip <| cwQ <| seq <| block <| seq <| region_draw mixed (by kernel_rfl) hS <| qv (fun w hS => (yMove h0)) <| qv (fun w hS => (yMove h5)) <| qv (fun w hS => (yIxQ rfl hax rfl runUnderlying39 sizeOf3)) ?_
   refine qv (fun w hS => (yLd rfl isAgg3 (hcx.ext hS.ext).one)) <| qv (fun w hS => (yMove h1)) <| qv (fun w hS => (yMove h5)) <| qv (fun w hS => (yIxQ rfl hay rfl runUnderlying39 sizeOf3)) <| qv (fun w hS => (yLd rfl isAgg3 (hcy.ext hS.ext).one)) <| qv (fun w hS => (yNeq rfl rfl)) ?_
   clear hS; refine qnil (fun w hS => ?_)
   refine cwQ ?_
   refine cond rfl (fun c25 => ?_) (fun c25 => ?_)
   ·
    simp only [BS, ne_eq] at c25
    refine seq <| region <| sv (yAsg rfl) <| nil <| cwQ ?_
    refine wp_ret (blockR (thenR (thenR (blockR (thenR ?_)))))
    exact retV (res1 rfl (congrArg Value.bool (show false = decide (a = b) from (decide_eq_false (fun e => by rw [e] at c25; exact c25 rfl)).symm))) hS.ext
   ·
    simp only [BS, ne_eq] at c25
    refine skip <| cwQ <| region <| sv (yMove h5) <| sv (yAdd rfl rfl ⟨by omega, by omega⟩) <| sv (yAsg rfl) <| nil ?_
    exact ⟨_, _, rfl, ⟨k + 1, h0, h1, rfl, hS, (by omega), (fun i hi => by
     by_cases e : i = k
     ·
      subst e
      rw [List.getElem?_eq_getElem hkl, List.getElem?_eq_getElem (show i < b.length by omega)]
      have e1 : a.getD i 0 = a[i] := by simp [hkl]
      have e2 : b.getD i 0 = b[i] := by simp [show i < b.length by omega]
      congr 1; omega
     ·
      exact hA i (by omega)), rfl⟩, by omega⟩
  ·
   simp only [BS, ne_eq] at c14
   obtain rfl : k = a.length := by omega
   refine exit <| cwQ <| seq <| region <| sv (yAsg rfl) <| nil <| cwQ <| wp_ret ?_
   exact retV (res1 rfl (congrArg Value.bool (show true = decide (a = b) from (decide_eq_true (eq_of_get hl hA)).symm))) hS.ext
set_option maxHeartbeats 1000000 in
theorem c_Same {x y : Ser} {ca cb : List Value} {w0 : World} (hx : RSer w0 ca x) (hy : RSer w0 cb y) : CV Tryz.prog 23 #[.agg ca.toArray, .agg cb.toArray] w0 (.bool (decide (x = y))) := by
 obtain ⟨va, rfl, hfa, ha⟩ := hx
 obtain ⟨vb, rfl, hfb, hb⟩ := hy
 obtain ⟨aa, na, rfl, -⟩ := id ha
 obtain ⟨ab, nb, rfl, -⟩ := id hb
 refine enter func23 rfl ntmps23 rfl ?_
 have hS := St.start w0
 refine seq <| region ?_
 refine sbox hS rfl rfl ?_; clear hS; intro b2 w hS
 refine sbox hS rfl rfl ?_; clear hS; intro b3 w hS
 refine sv (yAsg rfl) <| nil <| cwQ <| seq <| region <| sv (fa41_0 rfl) <| sv (yLdB rfl isAgg3 (hS.at _) rfl) <| sv (fa41_0 rfl) <| sv (yLdB rfl isAgg3 (hS.at _) rfl) ?_
 refine sv (yEql rfl rfl) <| sv (yMove rfl) ?_
 refine sg rfl rfl rfl (fun g => (fa41_1 rfl)) (fun v11 g11 => ?_)
 refine sg rfl rfl rfl (fun g => (yLdB (g11.1 g) isAgg39 (hS.at _) rfl)) (fun v12 g12 => ?_)
 refine sg rfl rfl rfl (fun g => (fa41_1 rfl)) (fun v13 g13 => ?_)
 refine sg rfl rfl rfl (fun g => (yLdB (g13.1 g) isAgg39 (hS.at _) rfl)) (fun v14 g14 => ?_)
 refine sgc hS rfl rfl rfl call22 (fun g => (.cons (g12.1 g) (.cons (g14.1 g) .nil))) (fun g => (c_Ints (ha.ext RInt.stays hS.ext) (hb.ext RInt.stays hS.ext))) ?_; clear hS; intro v15 w hS g15
 refine sv (yAnd rfl (fun hB => (g15.1 hB)) rfl) <| sv (yAsg rfl) <| nil <| cwQ <| wp_ret ?_
 exact retV (res1 rfl (congrArg Value.bool (by cases x; cases y; simp))) hS.ext
end Go.Proofs.YtgidbailiababaaGreatDoor

/- part Sx15 -/
namespace Go.Proofs.YtgidbailiababaaGreatDoor
open Go Bx Go.Proofs.Tryz
set_option maxHeartbeats 2000000 in
theorem c_Example {w0 : World} : CE Tryz.prog 52 #[] w0 (fun u w' => ∃ bc bf, u = .agg [.int .i64 0, .slice none 0 0, .slice none 0 0, .int .i64 0, .int .i64 100, .int .i64 3, .slice (some ⟨bc, 0, none⟩) 2 2, .slice (some ⟨bf, 0, none⟩) 3 3, .int .i64 (-500), .int .i64 4000, .int .i64 800, .int .i64 1].toArray ∧ RSgt w' [.int .i64 0, .slice none 0 0, .slice none 0 0, .int .i64 0, .int .i64 100, .int .i64 3, .slice (some ⟨bc, 0, none⟩) 2 2, .slice (some ⟨bf, 0, none⟩) 3 3, .int .i64 (-500), .int .i64 4000, .int .i64 800, .int .i64 1] exS ∧ Ext w0 w') := by
 refine enter func52 rfl ntmps52 rfl ?_
 have hS := St.start w0
 refine seq <| region ?_
 refine salloc hS zeroValue29 rfl ?_; clear hS; intro b0 w hS
 refine nil <| cwQ <| seq <| region <| sv (yBuild zeroValue57 rfl pl57 (.cons rfl rfl (.cons rfl rfl (.cons rfl rfl (.cons rfl rfl .nil)))) rfl) <| sv (yBuild zeroValue57 rfl pl57 (.cons rfl rfl (.cons rfl rfl (.cons rfl rfl .nil))) rfl) ?_
 refine sbslice hS underlying26 sizeOf57 rfl zeroValue57 rfl (.cons rfl rfl (.cons rfl rfl .nil)) rfl ?_; clear hS; intro b3 w hS
 refine sbslice hS underlying39 sizeOf3 rfl zeroValue3 rfl (.cons rfl rfl (.cons rfl rfl (.cons rfl rfl .nil))) rfl ?_; clear hS; intro b4 w hS
 refine sbslice hS underlying39 sizeOf3 rfl zeroValue3 rfl (.cons rfl rfl (.cons rfl rfl (.cons rfl rfl .nil))) rfl ?_; clear hS; intro b5 w hS
 refine sbslice hS underlying59 sizeOf39 rfl zeroValue39 rfl (.cons rfl rfl (.cons rfl rfl .nil)) rfl ?_; clear hS; intro b6 w hS
 refine sv (yBuild zeroValue61 rfl pl61 (.cons rfl rfl (.cons rfl rfl (.cons rfl rfl .nil))) rfl) ?_
 refine sbslice hS underlying39 sizeOf3 rfl zeroValue3 rfl (.cons rfl rfl (.cons rfl rfl .nil)) rfl ?_; clear hS; intro b8 w hS
 refine sbslice hS underlying59 sizeOf39 rfl zeroValue39 rfl (.cons rfl rfl .nil) rfl ?_; clear hS; intro b9 w hS
 refine sv (yBuild zeroValue61 rfl pl61 (.cons rfl rfl (.cons rfl rfl (.cons rfl rfl (.cons rfl rfl .nil)))) rfl) ?_
 refine sbslice hS underlying39 sizeOf3 rfl zeroValue3 rfl (.cons rfl rfl (.cons rfl rfl (.cons rfl rfl .nil))) rfl ?_; clear hS; intro b11 w hS
 refine sbslice hS underlying59 sizeOf39 rfl zeroValue39 rfl (.cons rfl rfl .nil) rfl ?_; clear hS; intro b12 w hS
 refine sv (yBuild zeroValue61 rfl pl61 (.cons rfl rfl (.cons rfl rfl (.cons rfl rfl .nil))) rfl) ?_
 refine sbslice hS underlying27 sizeOf61 rfl zeroValue61 rfl (.cons rfl rfl (.cons rfl rfl (.cons rfl rfl .nil))) rfl ?_; clear hS; intro b14 w hS
 refine sv (yBuild (r := [.int .i64 0, .slice none 0 0, .slice none 0 0, .int .i64 0, .int .i64 100, .int .i64 3, .slice (some ⟨b3, 0, none⟩) 2 2, .slice (some ⟨b14, 0, none⟩) 3 3, .int .i64 (-500), .int .i64 4000, .int .i64 800, .int .i64 1]) zeroValue29 rfl pl29 (.cons rfl rfl (.cons rfl rfl (.cons rfl rfl (.cons rfl rfl (.cons rfl rfl (.cons rfl rfl (.cons rfl rfl (.cons rfl rfl .nil)))))))) (by kernel_rfl)) ?_
 refine sst hS rfl rfl sizeOf29 rfl rfl rfl rfl ?_; clear hS; intro w hS
 refine nil <| cwQ <| wp_ret <| retQ (resV1 rfl (rc rfl isAgg29 sizeOf29 (hS.at b0) rfl rfl)) ?_
 have hc := (show Sl w 4 RCtr (.slice (some ⟨b3, 0, none⟩) 2 2) ([exC1, exC2] : List Ctr) from sl_of_blk (hS.at b3) (css := [[.string ⟨#[109, 101, 116]⟩, .int .i64 2, .int .i64 100, .int .i64 50], [.string ⟨#[111, 99, 101, 97, 110]⟩, .int .i64 5, .int .i64 200, .int .i64 0]]) (l := ([exC1, exC2] : List Ctr)) rfl ⟨rfl, ⟨rfl, by decide, by decide, by decide, by decide⟩, rfl, ⟨rfl, by decide, by decide, by decide, by decide⟩, trivial⟩ (by decide) rfl)
 have hf := (show Sl w 4 RFct (.slice (some ⟨b14, 0, none⟩) 3 3) ([exF1, exF2, exF3] : List Fct) from sl_of_blk (hS.at b14) (css := [[.int .i64 0, .int .i64 88, .int .i64 100, .slice (some ⟨b6, 0, none⟩) 2 2], [.int .i64 1, .int .i64 90, .int .i64 101, .slice (some ⟨b9, 0, none⟩) 1 1], [.int .i64 0, .int .i64 94, .int .i64 100, .slice (some ⟨b12, 0, none⟩) 1 1]]) (l := ([exF1, exF2, exF3] : List Fct)) rfl ⟨rfl, ⟨_, rfl, by decide, by decide, by decide, (show Sl w 1 RRow (.slice (some ⟨b6, 0, none⟩) 2 2) ([[1000, 1500, 2000], [500, 700, 900]] : List (List Int)) from sl_of_blk (hS.at b6) (css := [[.slice (some ⟨b4, 0, none⟩) 3 3], [.slice (some ⟨b5, 0, none⟩) 3 3]]) (l := ([[1000, 1500, 2000], [500, 700, 900]] : List (List Int))) rfl ⟨rfl, ⟨_, rfl, (ints_sl (l := [1000, 1500, 2000]) (hS.at b4) (by decide) (by decide))⟩, rfl, ⟨_, rfl, (ints_sl (l := [500, 700, 900]) (hS.at b5) (by decide) (by decide))⟩, trivial⟩ (by decide) rfl)⟩, rfl, ⟨_, rfl, by decide, by decide, by decide, (show Sl w 1 RRow (.slice (some ⟨b9, 0, none⟩) 1 1) ([[2500, 2600]] : List (List Int)) from sl_of_blk (hS.at b9) (css := [[.slice (some ⟨b8, 0, none⟩) 2 2]]) (l := ([[2500, 2600]] : List (List Int))) rfl ⟨rfl, ⟨_, rfl, (ints_sl (l := [2500, 2600]) (hS.at b8) (by decide) (by decide))⟩, trivial⟩ (by decide) rfl)⟩, rfl, ⟨_, rfl, by decide, by decide, by decide, (show Sl w 1 RRow (.slice (some ⟨b12, 0, none⟩) 1 1) ([[1200, 1800, 2600]] : List (List Int)) from sl_of_blk (hS.at b12) (css := [[.slice (some ⟨b11, 0, none⟩) 3 3]]) (l := ([[1200, 1800, 2600]] : List (List Int))) rfl ⟨rfl, ⟨_, rfl, (ints_sl (l := [1200, 1800, 2600]) (hS.at b11) (by decide) (by decide))⟩, trivial⟩ (by decide) rfl)⟩, trivial⟩ (by decide) rfl)
 exact ⟨b3, b14, rfl, exs_rs hc hf, hS.ext⟩
end Go.Proofs.YtgidbailiababaaGreatDoor

/- part Sx16 -/
namespace Go.Proofs.YtgidbailiababaaGreatDoor
open Go Bx Go.Proofs.Tryz
set_option maxHeartbeats 4000000 in
theorem c_Awake {w0 : World} (hg : Glb w0) : CV Tryz.prog 19 #[] w0 (.bool true) := by
 refine enter func19 rfl ntmps19 rfl ?_
 have hS := St.start w0
 refine seq <| region <| sv (yAsg rfl) <| nil <| cwQ <| seq <| region ?_
 refine scall call52 .nil c_Example ?_
 rintro _ w ⟨bc1, bf1, rfl, hT1, hE⟩; replace hS := hS.step hE; clear hE
 refine scall call24 (.cons rfl (.cons rfl .nil)) (c_Possible (t := exS) (now := 95) hT1 (hg.ext hS.ext) ⟨by decide, by decide⟩) ?_
 rw [exs_pos]
 rintro _ w ⟨pv, is1, rfl, hi1, hM⟩; replace hS := hS.call1 hM; clear hM
 obtain ⟨ap, cp, rfl, -⟩ := hi1 w (fun it hi => hS.ok (packI is1) (by simp) it hi)
 refine sv (yMove rfl) <| sv (yExt rfl rfl) <| sv (yExt rfl rfl) <| sv (yAsg rfl) <| sv (yAsg rfl) <| nil <| cwQ <| seq <| region ?_
 refine scall call52 .nil c_Example ?_
 rintro _ w ⟨bc2, bf2, rfl, hT2, hE⟩; replace hS := hS.step hE; clear hE
 refine scall call33 (.cons rfl (.cons rfl (.cons rfl .nil))) (c_Ruled (t := exS) (th := 90) (now := 96) hT2 (hg.ext hS.ext) ⟨by decide, by decide⟩ ⟨by decide, by decide⟩) ?_
 rw [exs_rul]
 rintro _ w ⟨lv, is2, rfl, hi2, hM⟩; replace hS := hS.call1 hM; clear hM
 refine sv (yMove rfl) <| sv (yExt rfl rfl) <| sv (yExt rfl rfl) <| sv (yAsg rfl) <| sv (yAsg rfl) <| nil <| cwQ <| seq <| region ?_
 refine scall call52 .nil c_Example ?_
 rintro _ w ⟨bc3, bf3, rfl, hT3, hE⟩; replace hS := hS.step hE; clear hE
 refine scall call41 (.cons rfl (.cons rfl (.cons rfl .nil))) (c_Tube (t := exS) (fi := 3) (mi := 0) hT3 (hg.ext hS.ext) ⟨by decide, by decide⟩ ⟨by decide, by decide⟩) ?_
 rw [exs_tub]
 rintro _ w ⟨tv, is3, rfl, -, hM⟩; replace hS := hS.call1 hM; clear hM
 refine sv (yMove rfl) <| sv (yExt rfl rfl) <| sv (yExt rfl rfl) <| sv (yAsg rfl) <| sv (yAsg rfl) <| nil <| cwQ <| seq <| region ?_
 have hE0 := hS.ext
 have hp := hi1 w (fun it hi => hS.ok (packI is1) (by simp) it hi)
 have hlr := hi2 w (fun it hi => hS.ok (packI is2) (by simp) it hi)
 obtain ⟨bp, op, cs0, hap, -, hcp, hRp, -⟩ := sl_at (i := 0) (x := Ser.mk exS.frm [3500, 2700, 2800]) hp rfl
 have hRp0 := hRp
 obtain ⟨vp, rfl, -⟩ := hRp
 replace hS := St.start w
 refine sv (yMove rfl) <| sv (yEql rfl rfl) <| sv (yMove rfl) <| ungo rfl rfl rfl <| sv (yMove rfl) <| ungo rfl rfl rfl <| sv (yEql rfl rfl) <| sv (yAnd rfl (fun hB => rfl) rfl) <| sv (yMove rfl) ?_
 refine ungo rfl rfl rfl <| sv (yMove rfl) <| ungo rfl rfl rfl <| sv (yEql rfl rfl) <| sv (yAnd rfl (fun hB => rfl) rfl) <| sv (yMove rfl) <| ungo rfl rfl rfl <| sv (yMove rfl) <| ungo rfl rfl rfl ?_
 refine sv (yLen rfl underlying45) <| ungo rfl rfl rfl <| sv (yEql rfl rfl) <| sv (yAnd rfl (fun hB => rfl) rfl) <| sv (yMove rfl) <| ungo rfl rfl rfl <| sv (yMove rfl) <| ungo rfl rfl rfl <| sv (yIxa rfl hap rfl runUnderlying45 sizeOf41 (by decide) (by decide)) ?_
 refine ungo rfl rfl rfl <| sv (yLdA rfl isAgg41 sizeOf41 (hcp.ext hS.ext) rfl) <| ungo rfl rfl rfl ?_
 refine sbslice hS underlying39 sizeOf3 rfl zeroValue3 rfl (.cons rfl rfl (.cons rfl rfl (.cons rfl rfl .nil))) rfl ?_; clear hS; intro b41 w hS
 refine ungo rfl rfl rfl <| sv (yBuild zeroValue41 rfl pl41 (.cons rfl rfl (.cons rfl rfl .nil)) rfl) <| ungo rfl rfl rfl ?_
 refine scV hS call23 (.cons rfl (.cons rfl .nil)) (c_Same (ca := [.int .i64 exS.frm, vp]) (cb := [.int .i64 100, .slice (some ⟨b41, 0, none⟩) 3 3]) (RSer.stays _ _ _ _ hS.ext hRp0) (show RSer w _ ⟨100, [3500, 2700, 2800]⟩ from ⟨_, rfl, by decide, ints_sl (l := [3500, 2700, 2800]) (hS.at b41) (by decide) (by decide)⟩)) ?_; clear hS; intro w hS
 refine sv (yAnd rfl (fun hB => rfl) rfl) <| sv (yMove rfl) <| ungo rfl rfl rfl <| sv (yMove rfl) <| ungo rfl rfl rfl ?_
 refine sbslice hS underlying39 sizeOf3 rfl zeroValue3 rfl (.cons rfl rfl .nil) rfl ?_; clear hS; intro b47 w hS
 refine ungo rfl rfl rfl ?_
 refine scV hS call22 (.cons rfl (.cons rfl .nil)) (c_Ints (hlr.ext RInt.stays hS.ext) (ints_sl (l := [0]) (hS.at b47) (by decide) (by decide))) ?_; clear hS; intro w hS
 refine sv (yAnd rfl (fun hB => rfl) rfl) <| sv (yAsg rfl) <| nil <| cwQ <| wp_ret ?_
 exact retV (res1 rfl rfl) (hE0.trans hS.ext)
end Go.Proofs.YtgidbailiababaaGreatDoor

/- part S25 -/
namespace Bx
open Go Go.RowKit
section
variable {t : Sgt} {now : Int} {s : Ser}
theorem boxR_2 : (boxR t now).2 = askE t now := by unfold boxR; split; rfl; next h => exact (Decidable.not_not.1 h).symm
theorem boxR_1 (h : askE t now = 0) : (boxR t now).1 = boxS t now := by unfold boxR; rw [if_neg (fun k => k h)]
theorem sl_shape {α : Type} {w : World} {k : Nat} {R : World → List Value → α → Prop} {v : Value} {l : List α} (h : Sl w k R v l) : ∃ a n c, v = .slice a n c ∧ n = l.length ∧ n ≤ 9223372036854775807 := by
  obtain ⟨a, c, e, h1, h2, -⟩ := h
  exact ⟨a, _, c, e, rfl, by omega⟩
end
end Bx

/- part S30 -/
namespace Bx
open Go Go.RowKit
def envK (f : Nat → Nat → Int) (n q i : Nat) : List Int := (List.range n).map fun j => f j (if j < i then q + 1 else q)
section
variable {f : Nat → Nat → Int} {n q i j : Nat}
theorem envK_len : (envK f n q i).length = n := by simp [envK]
theorem envK_get (h : j < n) : (envK f n q i)[j]? = some (f j (if j < i then q + 1 else q)) := by simp [envK, h]
theorem envK_succ (h : i < n) : envK f n q (i + 1) = (envK f n q i).set i (f i (q + 1)) := by
  apply List.ext_getElem?
  intro j
  rw [List.getElem?_set, envK_len]
  by_cases hj : j < n
  · rw [envK_get hj, envK_get hj]
    by_cases e : i = j
    · subst e
      rw [if_pos rfl, if_pos hj, if_pos (Nat.lt_succ_self _)]
    · rw [if_neg e]
      by_cases h2 : j < i
      · rw [if_pos h2, if_pos (by omega)]
      · rw [if_neg h2, if_neg (by omega)]
  · rw [List.getElem?_eq_none (by rw [envK_len]; omega), List.getElem?_eq_none (by rw [envK_len]; omega), if_neg (by omega)]
theorem envK_next : envK f n q n = envK f n (q + 1) 0 := by
  unfold envK
  refine List.map_congr_left fun j hj => ?_
  rw [if_pos (List.mem_range.1 hj), if_neg (Nat.not_lt_zero _)]
theorem env_store {x : Int} (h : i < n) (hx : f i (q + 1) = x) : splice ((envK f n q i).flatMap encI) (i * 1) [.int .i64 x] = (envK f n q (i + 1)).flatMap encI := by
  rw [envK_succ h, hx]
  exact splice_enc encI_len _ _ x (by rw [envK_len]; exact h)
theorem envK_here (h : i < n) : (envK f n q i)[i]? = some (f i q) := by rw [envK_get h, if_neg (Nat.lt_irrefl _)]
theorem envK_all : envK f n q 0 = (List.range n).map fun i => f i q := by
  unfold envK
  refine List.map_congr_left fun j hj => ?_
  rw [if_neg (Nat.not_lt_zero _)]
end
section
variable {t : Sgt} {now : Int}
theorem envLo_succ (i k : Nat) : envLo t now i (k + 1) = min (envLo t now i k) ((lowB (boxAt (boxS t now) k)).getD i 0) := by unfold envLo; rw [List.range_succ, List.foldl_append]; rfl
theorem envHi_succ (i k : Nat) : envHi t now i (k + 1) = max (envHi t now i k) ((highB (boxAt (boxS t now) k)).getD i 0) := by unfold envHi; rw [List.range_succ, List.foldl_append]; rfl
theorem envLo_1 (i : Nat) : envLo t now i 1 = (lowB (boxAt (boxS t now) 0)).getD i 0 := by rw [envLo_succ]; exact Int.min_self _
theorem envHi_1 (i : Nat) : envHi t now i 1 = (highB (boxAt (boxS t now) 0)).getD i 0 := by rw [envHi_succ]; exact Int.max_self _
theorem list_range {l : List Int} {n : Nat} (h : l.length = n) : ((List.range n).map fun i => l.getD i 0) = l := by
  subst h
  apply List.ext_getElem?
  intro i
  rw [List.getElem?_map]
  by_cases hi : i < l.length
  · rw [List.getElem?_range hi]; simp [hi]
  · rw [List.getElem?_eq_none (by simpa using hi), List.getElem?_eq_none (by omega)]; rfl
theorem envLo_first (h : (lowB (boxAt (boxS t now) 0)).length = t.ticks.toNat) : envK (envLo t now) t.ticks.toNat 1 0 = lowB (boxAt (boxS t now) 0) := by
  rw [envK_all]
  refine Eq.trans ?_ (list_range h)
  exact List.map_congr_left fun i _ => envLo_1 i
theorem envHi_first (h : (highB (boxAt (boxS t now) 0)).length = t.ticks.toNat) : envK (envHi t now) t.ticks.toNat 1 0 = highB (boxAt (boxS t now) 0) := by
  rw [envK_all]
  refine Eq.trans ?_ (list_range h)
  exact List.map_congr_left fun i _ => envHi_1 i
theorem getD_i64 {l : List Int} (h : ∀ x ∈ l, I64 x) (i : Nat) : I64 (l.getD i 0) := by
  rw [List.getD_eq_getElem?_getD]
  cases e : l[i]? with
  | none => decide
  | some x => exact h x (List.mem_of_getElem? e)
theorem boxAt_i64 (h : SgOk t) (k i : Nat) : I64 ((lowB (boxAt (boxS t now) k)).getD i 0) ∧ I64 ((highB (boxAt (boxS t now) k)).getD i 0) := by
  by_cases hk : k < (boxS t now).length
  · have hb := box_ok h (boxAt_mem hk)
    exact ⟨getD_i64 hb.2.2.1 i, getD_i64 hb.2.2.2 i⟩
  · have e : boxAt (boxS t now) k = ⟨[], []⟩ := by unfold boxAt; rw [List.getD_eq_getElem?_getD, List.getElem?_eq_none (by omega)]; rfl
    rw [e]
    exact ⟨show I64 0 by decide, show I64 0 by decide⟩
theorem env_i64 (h : SgOk t) (i : Nat) : ∀ k, I64 (envLo t now i k) ∧ I64 (envHi t now i k)
  | 0 => boxAt_i64 h 0 i
  | k + 1 => by
    have h1 := env_i64 h i k
    have h2 := boxAt_i64 (now := now) h k i
    rw [envLo_succ, envHi_succ]
    unfold I64 at *
    omega
theorem envK_i64 (h : SgOk t) {q i : Nat} : (∀ x ∈ envK (envLo t now) t.ticks.toNat q i, I64 x) ∧ ∀ x ∈ envK (envHi t now) t.ticks.toNat q i, I64 x := by
  constructor
  · intro x hx
    obtain ⟨j, -, rfl⟩ := List.mem_map.1 hx
    exact (env_i64 h j _).1
  · intro x hx
    obtain ⟨j, -, rfl⟩ := List.mem_map.1 hx
    exact (env_i64 h j _).2
theorem smE_box (h : smE t now = 0) : askE t now = 0 ∧ 0 < (boxS t now).length := by
  unfold smE at h
  split at h
  next h1 => exact absurd h h1
  next h1 =>
  split at h
  · simp at h
  next h2 => exact ⟨Decidable.not_not.1 h1, Nat.pos_of_ne_zero h2⟩
theorem peakLo_succ (k : Nat) : peakLo t now (k + 1) = min (peakLo t now k) (topL (lowB (boxAt (boxS t now) k))) := by unfold peakLo; rw [List.range_succ, List.foldl_append]; rfl
theorem peakHi_succ (k : Nat) : peakHi t now (k + 1) = max (peakHi t now k) (topL (highB (boxAt (boxS t now) k))) := by unfold peakHi; rw [List.range_succ, List.foldl_append]; rfl
def topLo (t : Sgt) (now : Int) (k : Nat) : List Int := (List.range k).map fun q => topL (lowB (boxAt (boxS t now) q))
def topHi (t : Sgt) (now : Int) (k : Nat) : List Int := (List.range k).map fun q => topL (highB (boxAt (boxS t now) q))
theorem topLo_succ (k : Nat) : topLo t now (k + 1) = topLo t now k ++ [topL (lowB (boxAt (boxS t now) k))] := by unfold topLo; rw [List.range_succ, List.map_append]; rfl
theorem topHi_succ (k : Nat) : topHi t now (k + 1) = topHi t now k ++ [topL (highB (boxAt (boxS t now) k))] := by unfold topHi; rw [List.range_succ, List.map_append]; rfl
theorem topLo_len (k : Nat) : (topLo t now k).length = k := by simp [topLo]
theorem topHi_len (k : Nat) : (topHi t now k).length = k := by simp [topHi]
theorem botL_peak {k : Nat} (h : 0 < k) : botL (topLo t now k) = peakLo t now k := by
  unfold botL botK
  rw [List.take_length, topLo, List.foldl_map]
  unfold peakLo
  congr 1
  simp [List.getD, h]
theorem topL_peak {k : Nat} (h : 0 < k) : topL (topHi t now k) = peakHi t now k := by
  unfold topL topK
  rw [List.take_length, topHi, List.foldl_map]
  unfold peakHi
  congr 1
  simp [List.getD, h]
theorem topL_i64 {l : List Int} (h : ∀ x ∈ l, I64 x) : I64 (topL l) := by
  have key : ∀ (l : List Int) (a : Int), I64 a → (∀ x ∈ l, I64 x) → I64 (l.foldl max a) := fun l => by
    induction l with
    | nil => exact fun a ha _ => ha
    | cons x l ih =>
      intro a ha hl
      refine ih _ ?_ fun y hy => hl y (List.mem_cons_of_mem _ hy)
      have := hl x (List.mem_cons_self ..)
      unfold I64 at *
      omega
  unfold topL topK
  rw [List.take_length]
  exact key l _ (getD_i64 h 0) h
theorem topLo_i64 (h : SgOk t) {k : Nat} (hk : k ≤ (boxS t now).length) : (∀ x ∈ topLo t now k, I64 x) ∧ ∀ x ∈ topHi t now k, I64 x := by
  constructor
  · intro x hx
    obtain ⟨q, hq, rfl⟩ := List.mem_map.1 hx
    exact topL_i64 (box_ok h (boxAt_mem (by have := List.mem_range.1 hq; omega))).2.2.1
  · intro x hx
    obtain ⟨q, hq, rfl⟩ := List.mem_map.1 hx
    exact topL_i64 (box_ok h (boxAt_mem (by have := List.mem_range.1 hq; omega))).2.2.2
end
section
variable {w : World} {frm : Int} {B : TypeId} {bs : List Bo} {ms ls hs : List Value}
theorem bx_of {n cap g : Nat} (hrow : w.ownsRow 0 B 9 (.slice (some ⟨g, 0, none⟩) n cap) n (bxCs frm (bs.map Bo.mem) ms ls hs).flatten) {k : Nat} (hk : k < bs.length) (hn : bs.length = n) (h1 : ms.length = bs.length) (h2 : ls.length = bs.length) (h3 : hs.length = bs.length) {m l h : Value} (em : ms.getD k undef = m) (el : ls.getD k undef = l) (eh : hs.getD k undef = h) : Cells w g (k * 9) (bxC frm (boxAt bs k).mem m l h) := by
  obtain ⟨g', e, hc⟩ := bx_cells hrow hk hn h1 h2 h3
  cases e
  rw [em, el, eh] at hc
  exact hc
theorem bx_fit {n cap : Nat} {a : Option Addr} (hrow : w.ownsRow 0 B 9 (.slice a n cap) n (bxCs frm (bs.map Bo.mem) ms ls hs).flatten) : n ≤ cap := by
  rcases hrow.2 with ⟨e, h0⟩ | ⟨g, cap', cur, e, -, -, h4, -⟩
  · omega
  · obtain ⟨-, rfl⟩ := slice_inj e; exact h4
theorem fromA_1 {g cap k : Nat} (h : 1 < cap) : fromA (some ⟨g, 0, none⟩) cap 1 k = some ⟨g, k, none⟩ := by
  unfold fromA
  rw [if_neg (by omega), Option.map_some, addr_add, Nat.zero_add, Nat.one_mul]
theorem in_sl1 {f : Bo → List Int} {vs : List Value} (hi : ∀ it ∈ inI (vs.drop 1) ((bs.map f).drop 1), it.ok w) (hl : vs.length = bs.length) {k : Nat} (hk : k + 1 < bs.length) (hb : ∀ x ∈ f (boxAt bs (k + 1)), I64 x) : Sl w 1 RInt (vs.getD (k + 1) undef) (f (boxAt bs (k + 1))) := by
  have h1 : (vs.drop 1)[k]? = some (vs.getD (k + 1) undef) := by rw [List.getElem?_drop, Nat.add_comm]; simp [List.getD, show k + 1 < vs.length by omega]
  have h2 : ((bs.map f).drop 1)[k]? = some (f (boxAt bs (k + 1))) := by rw [List.getElem?_drop, Nat.add_comm, List.getElem?_map, boxAt_get hk]; rfl
  have h3 : w.ownsRow 0 3 1 (vs.getD (k + 1) undef) (f (boxAt bs (k + 1))).length ((f (boxAt bs (k + 1))).flatMap encI) := hi _ (inI_get h1 h2)
  exact sl_ints h3 rfl hb
end
theorem env_take {S : List Nat} {w0 w : World} {x1 x2 : Item} {ls hs : List Value} {LO HI : List (List Int)} {l h : Value} {lo hi : List Int} {L : List Item} (hS : StX S w0 w (x1 :: x2 :: packI (inI ls LO) :: packI (inI hs HI) :: L)) (e1 : ls[0]? = some l) (e2 : LO[0]? = some lo) (e3 : hs[0]? = some h) (e4 : HI[0]? = some hi) :
    StX S w0 w (inR l lo :: inR h hi :: x1 :: x2 :: packI (inI (ls.drop 1) (LO.drop 1)) :: packI (inI (hs.drop 1) (HI.drop 1)) :: L) := by
  have k1 : inI ls LO = [] ++ inR l lo :: inI (ls.drop 1) (LO.drop 1) := inI_split e1 e2
  have k2 : inI hs HI = [] ++ inR h hi :: inI (hs.drop 1) (HI.drop 1) := inI_split e3 e4
  rw [k1, k2] at hS
  have h1 : StX S w0 w (packI ([] ++ inR l lo :: inI (ls.drop 1) (LO.drop 1)) :: x1 :: x2 :: packI ([] ++ inR h hi :: inI (hs.drop 1) (HI.drop 1)) :: L) := hS.perm (List.perm_middle (l₁ := [x1, x2]))
  have h2 : StX S w0 w (inR l lo :: packI (inI (ls.drop 1) (LO.drop 1)) :: x1 :: x2 :: packI ([] ++ inR h hi :: inI (hs.drop 1) (HI.drop 1)) :: L) := h1.takeI
  have h3 : StX S w0 w (packI ([] ++ inR h hi :: inI (hs.drop 1) (HI.drop 1)) :: inR l lo :: packI (inI (ls.drop 1) (LO.drop 1)) :: x1 :: x2 :: L) := h2.perm (List.perm_middle (l₁ := [_, _, x1, x2]))
  have h4 : StX S w0 w (inR h hi :: packI (inI (hs.drop 1) (HI.drop 1)) :: inR l lo :: packI (inI (ls.drop 1) (LO.drop 1)) :: x1 :: x2 :: L) := h3.takeI
  refine h4.perm ?_
  refine (List.perm_middle (l₁ := [_, _]) (a := inR l lo)).trans (List.Perm.cons _ (List.Perm.cons _ ?_))
  refine (List.perm_middle (l₁ := [_, _]) (a := x1)).trans (List.Perm.cons _ ?_)
  refine (List.perm_middle (l₁ := [_, _]) (a := x2)).trans (List.Perm.cons _ ?_)
  exact List.Perm.swap _ _ _
end Bx

/- part S31 -/
namespace Bx
open Go Go.RowKit
section
variable {k n : Int} {t : Sgt}
end
def RSea (w : World) (cs : List Value) (x : Sea) : Prop := ∃ c1 v1 v2, cs = c1 ++ [v1, v2] ∧ RSgt w c1 x.task ∧ Sl w 1 RInt v1 x.surge ∧ Sl w 1 RU8 v2 x.parts
end Bx

/- part Sx21 -/
namespace Go.Proofs.YtgidbailiababaaGreatDoor
open Go Bx Go.Proofs.Tryz
set_option maxHeartbeats 4000000 in
theorem c_Envelope {t : Sgt} {cv : Value} {ag ak ae : Option Addr} {cg ck ce : Nat} {now : Int} {w0 : World} (h : RSgt w0 (scQ t cv ag ak ae cg ck ce) t) (hg : Glb w0) (hI : I64 now) : CE Tryz.prog 48 #[.agg (scQ t cv ag ak ae cg ck ce).toArray, .int .i64 now] w0 (fun u w' => ∃ lv hv its, u = .tuple #[.agg #[.int .i64 (envR t now).1.frm, lv], .agg #[.int .i64 (envR t now).2.1.frm, hv], .int .i64 (envR t now).2.2] ∧ (∀ w2 : World, (∀ it ∈ its, it.ok w2) → Sl w2 1 RInt lv (envR t now).1.vals ∧ Sl w2 1 RInt hv (envR t now).2.1.vals) ∧ St w0 w' [packI its]) := by
 obtain ⟨hT, hG, hw64, hf64, hk64, hC, hF, hl64, hm64, hr64, hq64⟩ := RSgt.parts h
 refine enter func48 rfl ntmps48 rfl ?_
 have hS := St.start w0
 refine seq <| region ?_
 refine sbox hS rfl rfl ?_; clear hS; intro b2 w hS
 refine salloc hS zeroValue41 rfl ?_; clear hS; intro b4 w hS
 refine salloc hS zeroValue41 rfl ?_; clear hS; intro b5 w hS
 refine sv (yAsg rfl) <| nil <| cwQ <| seq <| region <| sv (yLdBA rfl isAgg29 sizeOf29 (hS.at _) rfl rfl) <| sv (yMove rfl) ?_
 refine scall call93 (.cons rfl (.cons rfl .nil)) (c_someS (h.ext hS.ext) (hg.ext hS.ext) hI) ?_
 rintro _ w (⟨he, ev, rfl, hE⟩ | ⟨he, av, cv2, ms, ls, hs, rfl, hl, hM⟩)
 ·
  replace hS := hS.step hE; clear hE
  refine sv (yMove rfl) <| sv (yExt rfl rfl) <| sv (yExt rfl rfl) <| sv (yAsg rfl) <| sv (yAsg rfl) <| nil <| cwQ <| seq <| seq ?_
  refine region <| sv (yMove rfl) <| sv (yNeq rfl rfl) <| nil <| cwQ ?_
  refine cond rfl (fun c18 => ?_) (fun c18 => ?_)
  ·
   simp only [BS, ne_eq] at c18
   refine seq <| region <| sv (yBuild zeroValue41 rfl pl41 .nil rfl) <| sv (yBuild zeroValue41 rfl pl41 .nil rfl) <| sv (yMove rfl) ?_
   refine sst hS rfl rfl sizeOf41 rfl rfl rfl rfl ?_; clear hS; intro w hS
   refine sst hS rfl rfl sizeOf41 rfl rfl rfl rfl ?_; clear hS; intro w hS
   refine sv (yAsg rfl) <| nil <| cwQ ?_
   refine wp_ret (thenR ?_)
   refine retQ (resV3 rfl (rc rfl isAgg41 sizeOf41 (hS.at _) rfl rfl) (rc rfl isAgg41 sizeOf41 (hS.at _) rfl rfl) (rt rfl)) ?_
   have hf : envR t now = (⟨0, []⟩, ⟨0, []⟩, smE t now) := by unfold envR; rw [if_pos he]
   rw [hf]
   exact ⟨_, _, [], rfl, fun _ _ => ⟨sl_none, sl_none⟩, its0 hS⟩
  ·
   simp only [BS, ne_eq] at c18
   exact absurd c18 he
 ·
  replace hS := hS.call hM; clear hM
  obtain ⟨hl1, hl2, hl3⟩ := hl
  obtain ⟨hask, hpos⟩ := smE_box he
  obtain ⟨hok, hnow⟩ := askE_ok hask
  have htk := hok.tk
  have hbn : (boxS t now).length ≤ 625 := Nat.le_trans boxL_len (cho_bd hok)
  have hn0 := (high_len (boxAt_mem hpos)).1
  have hn1 := (high_len (boxAt_mem hpos)).2
  replace hS : StX [] w0 w (rowI (.slice av (boxS t now).length cv2) 115 9 (boxS t now).length (bxCs t.frm ((boxS t now).map Bo.mem) ms ls hs).flatten :: packI (inI ms ((boxS t now).map Bo.mem)) :: packI (inI ls ((boxS t now).map lowB)) :: packI (inI hs ((boxS t now).map highB)) :: [blk b5 [.int .i64 0, .slice none 0 0] 41, blk b4 [.int .i64 0, .slice none 0 0] 41, blk b2 (scQ t cv ag ak ae cg ck ce) 29]) := hS
  have hfit := bx_fit (hS.row (.slice av (boxS t now).length cv2))
  obtain ⟨gb, am, cm, al0, cl0, ah0, ch0, rfl, -, hes0, -, hlo0, hhi0⟩ := bx_at (hS.row (.slice av (boxS t now).length cv2)) hpos rfl hl1 hl2 hl3 (fun b hb => box_ok hok hb) (hS.ok (packI (inI ms ((boxS t now).map Bo.mem))) (by simp)) (hS.ok (packI (inI ls ((boxS t now).map lowB))) (by simp)) (hS.ok (packI (inI hs ((boxS t now).map highB))) (by simp))
  replace hes0 := hes0.2
  rw [hn0, hn1] at hes0
  replace hS := env_take hS (l := .slice al0 t.ticks.toNat cl0) (lo := lowB (boxAt (boxS t now) 0)) (h := .slice ah0 t.ticks.toNat ch0) (hi := highB (boxAt (boxS t now) 0)) (by rw [← hes0.1]; simp [List.getD, show 0 < ls.length by omega]) (by rw [List.getElem?_map, boxAt_get hpos]; rfl) (by rw [← hes0.2]; simp [List.getD, show 0 < hs.length by omega]) (by rw [List.getElem?_map, boxAt_get hpos]; rfl)
  unfold inR at hS
  rw [hn0, hn1, ← envLo_first hn1, ← envHi_first hn0] at hS
  obtain ⟨gl, rfl, -⟩ := row_get (hS.row (.slice al0 t.ticks.toNat cl0)) (by omega)
  obtain ⟨gh, rfl, -⟩ := row_get (hS.row (.slice ah0 t.ticks.toNat ch0)) (by omega)
  refine sv (yMove rfl) <| sv (yExt rfl rfl) <| sv (yExt rfl rfl) <| sv (yAsg rfl) <| sv (yAsg rfl) <| nil <| cwQ <| seq <| seq ?_
  refine region <| sv (yMove rfl) <| sv (yNeq rfl rfl) <| nil <| cwQ ?_
  refine cond rfl (fun c18 => ?_) (fun c18 => ?_)
  ·
   exact absurd c18 (by decide)
  ·
   refine skip <| cwQ <| seq <| region_mix (fun w => StX [] w0 w (rowI (.slice (some ⟨gl, 0, none⟩) t.ticks.toNat cl0) 3 1 t.ticks.toNat ((envK (envLo t now) t.ticks.toNat (1) (0)).flatMap Bx.encI) :: rowI (.slice (some ⟨gh, 0, none⟩) t.ticks.toNat ch0) 3 1 t.ticks.toNat ((envK (envHi t now) t.ticks.toNat (1) (0)).flatMap Bx.encI) :: rowI (.slice (some ⟨gb, 0, none⟩) (boxS t now).length cv2) 115 9 (boxS t now).length (bxCs t.frm ((boxS t now).map Bo.mem) ms ls hs).flatten :: packI (inI ms ((boxS t now).map Bo.mem)) :: packI (inI (ls.drop 1) (((boxS t now).map lowB).drop 1)) :: packI (inI (hs.drop 1) (((boxS t now).map highB).drop 1)) :: [])) 11 mixed hS ?_
   clear hS; intro w hS
   refine fsR 0 rfl (hS.sub (List.sublist_append_left [_, _, _, _, _, _] _)) (fun w hS => (yMove rfl)) <| fsR 1 rfl (hS.sub (List.sublist_append_left [_, _, _, _, _, _] _)) (fun w hS => (yIxa (m := 0) rfl rfl rfl runUnderlying110 sizeOf115 (by decide) (by omega))) <| fsR 2 rfl (hS.sub (List.sublist_append_left [_, _, _, _, _, _] _)) (fun w hS => (fa115_1 rfl)) <| fsR 3 rfl (hS.sub (List.sublist_append_left [_, _, _, _, _, _] _)) (fun w hS => (fa43_1 rfl)) <| fsR 4 rfl (hS.sub (List.sublist_append_left [_, _, _, _, _, _] _)) (fun w hS => (yLdA rfl isAgg41 sizeOf41 (Cells.mid (xs := [.int .i64 t.frm, .slice (some ⟨gl, 0, none⟩) t.ticks.toNat cl0]) (bx_of (hS.row (.slice (some ⟨gb, 0, none⟩) (boxS t now).length cv2)) hpos rfl hl1 hl2 hl3 rfl hes0.1 hes0.2) 5 rfl) rfl)) <| fsR 5 rfl (hS.sub (List.sublist_append_left [_, _, _, _, _, _] _)) (fun w hS => (yMove rfl)) <| fsR 6 rfl (hS.sub (List.sublist_append_left [_, _, _, _, _, _] _)) (fun w hS => (yIxa (m := 0) rfl rfl rfl runUnderlying110 sizeOf115 (by decide) (by omega))) ?_
   refine fsR 7 rfl (hS.sub (List.sublist_append_left [_, _, _, _, _, _] _)) (fun w hS => (fa115_1 rfl)) <| fsR 8 rfl (hS.sub (List.sublist_append_left [_, _, _, _, _, _] _)) (fun w hS => (fa43_2 rfl)) <| fsR 9 rfl (hS.sub (List.sublist_append_left [_, _, _, _, _, _] _)) (fun w hS => (yLdA rfl isAgg41 sizeOf41 (Cells.mid (xs := [.int .i64 t.frm, .slice (some ⟨gh, 0, none⟩) t.ticks.toNat ch0]) (bx_of (hS.row (.slice (some ⟨gb, 0, none⟩) (boxS t now).length cv2)) hpos rfl hl1 hl2 hl3 rfl hes0.1 hes0.2) 7 rfl) rfl)) <| awQ <| a1Q 10 (by kernel_rfl) rfl ?_
   refine sst hS rfl rfl sizeOf41 rfl rfl rfl rfl ?_; clear hS; intro w hS
   refine nil ?_
   refine ⟨fun _ => (hS.sub (List.sublist_append_left [_, _, _, _, _, _] _)), ?_⟩
   refine awQ <| awQ <| a1Q 11 (by kernel_rfl) rfl ?_
   refine sst hS rfl rfl sizeOf41 rfl rfl rfl rfl ?_; clear hS; intro w hS
   refine nil ?_
   refine ⟨fun h => absurd h (by decide), ?_⟩
   refine awQ <| a_end (by kernel_rfl) <| cwQ <| seq <| seq <| region <| sv (yMove rfl) <| sv (yFromA (i := 1) rfl rfl underlying110 sizeOf115 (by omega)) <| sv (yLen rfl underlying110) ?_
   refine sv (yMove rfl) <| nil <| cwQ <| block <| loop (fun f w zz => ∃ (k : Nat), f 4 = ptQ b4 ∧ f 5 = ptQ b5 ∧ f 33 = .slice (fromA (some ⟨gb, 0, none⟩) cv2 1 9) ((boxS t now).length - 1) (cv2 - 1) ∧ f 34 = .int .i64 (((boxS t now).length - 1 : Nat) : Int) ∧ f 35 = .int .i64 (k : Int) ∧ StX [] w0 w (rowI (.slice (some ⟨gl, 0, none⟩) t.ticks.toNat cl0) 3 1 t.ticks.toNat ((envK (envLo t now) t.ticks.toNat (k + 1) (0)).flatMap Bx.encI) :: rowI (.slice (some ⟨gh, 0, none⟩) t.ticks.toNat ch0) 3 1 t.ticks.toNat ((envK (envHi t now) t.ticks.toNat (k + 1) (0)).flatMap Bx.encI) :: rowI (.slice (some ⟨gb, 0, none⟩) (boxS t now).length cv2) 115 9 (boxS t now).length (bxCs t.frm ((boxS t now).map Bo.mem) ms ls hs).flatten :: packI (inI ms ((boxS t now).map Bo.mem)) :: packI (inI (ls.drop 1) (((boxS t now).map lowB).drop 1)) :: packI (inI (hs.drop 1) (((boxS t now).map highB).drop 1)) :: blk b5 [.int .i64 t.frm, .slice (some ⟨gh, 0, none⟩) t.ticks.toNat ch0] 41 :: blk b4 [.int .i64 t.frm, .slice (some ⟨gl, 0, none⟩) t.ticks.toNat cl0] 41 :: []) ∧ (k + 1 ≤ (boxS t now).length) ∧ zz = (boxS t now).length - k) _ ⟨_, rfl, 0, rfl, rfl, rfl, rfl, rfl, (hS.sub (List.sublist_append_left [_, _, _, _, _, _, _, _] _)), (by omega), rfl⟩ ?_
   clear hS
   rintro f w _ ⟨k, h4, h5, h33, h34, h35, hS, hk, rfl⟩
   refine seq <| region <| sv (yLss h35 h34) <| nil <| cwQ <| seq ?_
   refine cond rfl (fun c36 => ?_) (fun c36 => ?_)
   ·
    simp only [BS, ne_eq] at c36
    have hkn : k + 1 < (boxS t now).length := by omega
    have hb1 := box_ok hok (boxAt_mem hkn)
    have hs1 := in_sl1 (f := lowB) (hS.ok (packI (inI (ls.drop 1) (((boxS t now).map lowB).drop 1))) (by simp)) hl2 hkn hb1.2.2.1
    have hs2 := in_sl1 (f := highB) (hS.ok (packI (inI (hs.drop 1) (((boxS t now).map highB).drop 1))) (by simp)) hl3 hkn hb1.2.2.2
    obtain ⟨al1, cl1, e1, -⟩ := id hs1
    have hs0 := in_sl (f := Bo.mem) (bs := boxS t now) (k := k + 1) (hS.ok (packI (inI ms ((boxS t now).map Bo.mem))) (by simp)) hl1 hkn hb1.2.1
    obtain ⟨am1, cm1, e0, -⟩ := id hs0
    obtain ⟨ah1, ch1, e2, -⟩ := id hs2
    have hn2 := (high_len (boxAt_mem hkn)).1
    have hn3 := (high_len (boxAt_mem hkn)).2
    refine skip <| cwQ <| seq <| block <| seq <| region <| sv (yIxQ h33 (fromA_1 (by omega)) h35 runUnderlying110 sizeOf115) ?_
    refine sv (yLdA rfl isAgg115 sizeOf115 (show Cells _ gb (9 + (k : Int).toNat * 9) _ by rw [show 9 + (k : Int).toNat * 9 = (k + 1) * 9 by omega]; exact bx_of (hS.row (.slice (some ⟨gb, 0, none⟩) (boxS t now).length cv2)) hkn rfl hl1 hl2 hl3 e0 e1 e2) rfl) ?_
    refine salloc hS zeroValue115 rfl ?_; clear hS; intro b9 w hS
    refine sst hS rfl rfl sizeOf115 rfl rfl rfl rfl ?_; clear hS; intro w hS
    refine nil <| cwQ <| seq <| region <| sv (fa41_1 h4) <| sv (yLdB rfl isAgg39 (hS.at _) rfl) <| sv (yLen rfl underlying39) <| sv (yMove rfl) <| nil ?_
    refine cwQ <| block <| loop (fun f w zz => ∃ (i : Nat), f 4 = ptQ b4 ∧ f 5 = ptQ b5 ∧ f 33 = .slice (fromA (some ⟨gb, 0, none⟩) cv2 1 9) ((boxS t now).length - 1) (cv2 - 1) ∧ f 34 = .int .i64 (((boxS t now).length - 1 : Nat) : Int) ∧ f 35 = .int .i64 (k : Int) ∧ f 9 = ptQ b9 ∧ f 41 = .int .i64 (t.ticks.toNat : Int) ∧ f 42 = .int .i64 (i : Int) ∧ StX [] w0 w (blk b9 (bxC t.frm (boxAt (boxS t now) (k + 1)).mem (.slice am1 (boxAt (boxS t now) (k + 1)).mem.length cm1) (.slice al1 (lowB (boxAt (boxS t now) (k + 1))).length cl1) (.slice ah1 (highB (boxAt (boxS t now) (k + 1))).length ch1)) 115 :: rowI (.slice (some ⟨gl, 0, none⟩) t.ticks.toNat cl0) 3 1 t.ticks.toNat ((envK (envLo t now) t.ticks.toNat (k + 1) (i)).flatMap Bx.encI) :: rowI (.slice (some ⟨gh, 0, none⟩) t.ticks.toNat ch0) 3 1 t.ticks.toNat ((envK (envHi t now) t.ticks.toNat (k + 1) (i)).flatMap Bx.encI) :: rowI (.slice (some ⟨gb, 0, none⟩) (boxS t now).length cv2) 115 9 (boxS t now).length (bxCs t.frm ((boxS t now).map Bo.mem) ms ls hs).flatten :: packI (inI ms ((boxS t now).map Bo.mem)) :: packI (inI (ls.drop 1) (((boxS t now).map lowB).drop 1)) :: packI (inI (hs.drop 1) (((boxS t now).map highB).drop 1)) :: blk b5 [.int .i64 t.frm, .slice (some ⟨gh, 0, none⟩) t.ticks.toNat ch0] 41 :: blk b4 [.int .i64 t.frm, .slice (some ⟨gl, 0, none⟩) t.ticks.toNat cl0] 41 :: []) ∧ (i ≤ t.ticks.toNat) ∧ zz = t.ticks.toNat - i) _ ⟨_, rfl, 0, h4, h5, h33, h34, h35, rfl, rfl, rfl, hS, (Nat.zero_le _), rfl⟩ ?_
    clear hS
    rintro f w _ ⟨i, h4, h5, h33, h34, h35, h9, h41, h42, hS, hi, rfl⟩
    refine seq <| region <| sv (yLss h42 h41) <| nil <| cwQ <| seq ?_
    refine cond rfl (fun c43 => ?_) (fun c43 => ?_)
    ·
     simp only [BS, ne_eq] at c43
     have hil : i < t.ticks.toNat := by omega
     have hq1 : ∀ w, StX [] w0 w (blk b9 (bxC t.frm (boxAt (boxS t now) (k + 1)).mem (.slice am1 (boxAt (boxS t now) (k + 1)).mem.length cm1) (.slice al1 (lowB (boxAt (boxS t now) (k + 1))).length cl1) (.slice ah1 (highB (boxAt (boxS t now) (k + 1))).length ch1)) 115 :: rowI (.slice (some ⟨gl, 0, none⟩) t.ticks.toNat cl0) 3 1 t.ticks.toNat ((envK (envLo t now) t.ticks.toNat (k + 1) (i)).flatMap Bx.encI) :: rowI (.slice (some ⟨gh, 0, none⟩) t.ticks.toNat ch0) 3 1 t.ticks.toNat ((envK (envHi t now) t.ticks.toNat (k + 1) (i)).flatMap Bx.encI) :: rowI (.slice (some ⟨gb, 0, none⟩) (boxS t now).length cv2) 115 9 (boxS t now).length (bxCs t.frm ((boxS t now).map Bo.mem) ms ls hs).flatten :: packI (inI ms ((boxS t now).map Bo.mem)) :: packI (inI (ls.drop 1) (((boxS t now).map lowB).drop 1)) :: packI (inI (hs.drop 1) (((boxS t now).map highB).drop 1)) :: blk b5 [.int .i64 t.frm, .slice (some ⟨gh, 0, none⟩) t.ticks.toNat ch0] 41 :: blk b4 [.int .i64 t.frm, .slice (some ⟨gl, 0, none⟩) t.ticks.toNat cl0] 41 :: []) → Sl w 1 RInt (.slice al1 (lowB (boxAt (boxS t now) (k + 1))).length cl1) (lowB (boxAt (boxS t now) (k + 1))) := fun w hS => by rw [← e1]; exact in_sl1 (hS.ok (packI (inI (ls.drop 1) (((boxS t now).map lowB).drop 1))) (by simp)) hl2 hkn hb1.2.2.1
     have hq2 : ∀ w, StX [] w0 w (blk b9 (bxC t.frm (boxAt (boxS t now) (k + 1)).mem (.slice am1 (boxAt (boxS t now) (k + 1)).mem.length cm1) (.slice al1 (lowB (boxAt (boxS t now) (k + 1))).length cl1) (.slice ah1 (highB (boxAt (boxS t now) (k + 1))).length ch1)) 115 :: rowI (.slice (some ⟨gl, 0, none⟩) t.ticks.toNat cl0) 3 1 t.ticks.toNat ((envK (envLo t now) t.ticks.toNat (k + 1) (i)).flatMap Bx.encI) :: rowI (.slice (some ⟨gh, 0, none⟩) t.ticks.toNat ch0) 3 1 t.ticks.toNat ((envK (envHi t now) t.ticks.toNat (k + 1) (i)).flatMap Bx.encI) :: rowI (.slice (some ⟨gb, 0, none⟩) (boxS t now).length cv2) 115 9 (boxS t now).length (bxCs t.frm ((boxS t now).map Bo.mem) ms ls hs).flatten :: packI (inI ms ((boxS t now).map Bo.mem)) :: packI (inI (ls.drop 1) (((boxS t now).map lowB).drop 1)) :: packI (inI (hs.drop 1) (((boxS t now).map highB).drop 1)) :: blk b5 [.int .i64 t.frm, .slice (some ⟨gh, 0, none⟩) t.ticks.toNat ch0] 41 :: blk b4 [.int .i64 t.frm, .slice (some ⟨gl, 0, none⟩) t.ticks.toNat cl0] 41 :: []) → Sl w 1 RInt (.slice ah1 (highB (boxAt (boxS t now) (k + 1))).length ch1) (highB (boxAt (boxS t now) (k + 1))) := fun w hS => by rw [← e2]; exact in_sl1 (hS.ok (packI (inI (hs.drop 1) (((boxS t now).map highB).drop 1))) (by simp)) hl3 hkn hb1.2.2.2
     have hg1 : (lowB (boxAt (boxS t now) (k + 1)))[i]? = some ((lowB (boxAt (boxS t now) (k + 1))).getD i 0) := by simp [List.getD, show i < (lowB (boxAt (boxS t now) (k + 1))).length by omega]
     have hg2 : (highB (boxAt (boxS t now) (k + 1)))[i]? = some ((highB (boxAt (boxS t now) (k + 1))).getD i 0) := by simp [List.getD, show i < (highB (boxAt (boxS t now) (k + 1))).length by omega]
     obtain ⟨bx, ox, -, rfl, -⟩ := sl_at (hq1 w hS) hg1
     obtain ⟨by2, oy, -, rfl, -⟩ := sl_at (hq2 w hS) hg2
     have hge1 := envK_here (f := envLo t now) (q := k + 1) hil
     have hge2 := envK_here (f := envHi t now) (q := k + 1) hil
     refine skip <| cwQ <| seq <| block <| seq <| region <| sv (yMove h42) <| sv (yAsg rfl) <| nil ?_
     refine cwQ ?_
     refine region_two mixed [0, 1, 0, 0, 2, 0, 0, 1, 0, 0, 1, 0, 0, 0, 1, 0, 0, 1, 0, 0, 2, 0, 0, 1, 0, 0, 0, 2, 0, 0, 1, 0, 0] 33 35 (fun w => StX [] w0 w (blk b9 (bxC t.frm (boxAt (boxS t now) (k + 1)).mem (.slice am1 (boxAt (boxS t now) (k + 1)).mem.length cm1) (.slice (some ⟨bx, ox, none⟩) (lowB (boxAt (boxS t now) (k + 1))).length cl1) (.slice (some ⟨by2, oy, none⟩) (highB (boxAt (boxS t now) (k + 1))).length ch1)) 115 :: rowI (.slice (some ⟨gl, 0, none⟩) t.ticks.toNat cl0) 3 1 t.ticks.toNat ((envK (envLo t now) t.ticks.toNat (k + 1) (i)).flatMap Bx.encI) :: rowI (.slice (some ⟨gh, 0, none⟩) t.ticks.toNat ch0) 3 1 t.ticks.toNat ((envK (envHi t now) t.ticks.toNat (k + 1) (i)).flatMap Bx.encI) :: rowI (.slice (some ⟨gb, 0, none⟩) (boxS t now).length cv2) 115 9 (boxS t now).length (bxCs t.frm ((boxS t now).map Bo.mem) ms ls hs).flatten :: packI (inI ms ((boxS t now).map Bo.mem)) :: packI (inI (ls.drop 1) (((boxS t now).map lowB).drop 1)) :: packI (inI (hs.drop 1) (((boxS t now).map highB).drop 1)) :: blk b5 [.int .i64 t.frm, .slice (some ⟨gh, 0, none⟩) t.ticks.toNat ch0] 41 :: blk b4 [.int .i64 t.frm, .slice (some ⟨gl, 0, none⟩) t.ticks.toNat cl0] 41 :: [])) (fun w => StX [] w0 w (blk b9 (bxC t.frm (boxAt (boxS t now) (k + 1)).mem (.slice am1 (boxAt (boxS t now) (k + 1)).mem.length cm1) (.slice (some ⟨bx, ox, none⟩) (lowB (boxAt (boxS t now) (k + 1))).length cl1) (.slice (some ⟨by2, oy, none⟩) (highB (boxAt (boxS t now) (k + 1))).length ch1)) 115 :: rowI (.slice (some ⟨gb, 0, none⟩) (boxS t now).length cv2) 115 9 (boxS t now).length (bxCs t.frm ((boxS t now).map Bo.mem) ms ls hs).flatten :: packI (inI ms ((boxS t now).map Bo.mem)) :: packI (inI (ls.drop 1) (((boxS t now).map lowB).drop 1)) :: packI (inI (hs.drop 1) (((boxS t now).map highB).drop 1)) :: blk b5 [.int .i64 t.frm, .slice (some ⟨gh, 0, none⟩) t.ticks.toNat ch0] 41 :: blk b4 [.int .i64 t.frm, .slice (some ⟨gl, 0, none⟩) t.ticks.toNat cl0] 41 :: [])) (by kernel_rfl) (fun c a a' w h => by obtain ⟨_, v, hv, _⟩ := h; cases hv) hS (fun _ h => h) (fun _ h => h.sub (.cons_cons _ (.cons _ (.cons _ lrQ)))) ?_
     clear hS; intro w hS
     refine hv0 (fun w => (fa41_1 h4)) <| hv1 (fun w hS => (yLdB rfl isAgg39 (hS.at _) rfl)) <| hv0 (fun w => (yMove rfl)) <| hv0 (fun w => (fa41_1 h5)) <| hv2 (fun w hS => (yLdB rfl isAgg39 (hS.at _) rfl)) <| hv0 (fun w => (yMove rfl)) <| hv0 (fun w => (fa41_1 h4)) <| hv1 (fun w hS => (yLdB rfl isAgg39 (hS.at _) rfl)) <| hv0 (fun w => (yMove rfl)) ?_
     refine hv0 (fun w => (Y.to (yIxQ rfl rfl rfl runUnderlying39 sizeOf3) (congrArg (fun q => Value.pointer (some ⟨gl, q, none⟩)) (show 0 + (i : Int).toNat * 1 = i * 1 by omega)))) <| hv1 (fun w hS => (yLd rfl isAgg3 (flat_cells0 (enc := Bx.encI) Bx.encI_len (row_at (hS.row (.slice (some ⟨gl, 0, none⟩) t.ticks.toNat cl0)) rfl (by omega)) hge1).one)) <| hv0 (fun w => (fa115_1 h9)) <| hv0 (fun w => (fa43_1 rfl)) <| hv0 (fun w => (fa41_1 rfl)) <| hv1 (fun w hS => (yLdB rfl isAgg39 (hS.at _) rfl)) <| hv0 (fun w => (yMove rfl)) <| hv0 (fun w => (yIxQ rfl rfl rfl runUnderlying39 sizeOf3)) <| hv1 (fun w hS => (yLd rfl isAgg3 (sl_cell (hq1 w hS) hg1))) ?_
     refine hv0 (fun w => (yMin rfl rfl)) <| hv0 (fun w => (fa41_1 h5)) <| hv2 (fun w hS => (yLdB rfl isAgg39 (hS.at _) rfl)) <| hv0 (fun w => (yMove rfl)) <| hv0 (fun w => (Y.to (yIxQ rfl rfl rfl runUnderlying39 sizeOf3) (congrArg (fun q => Value.pointer (some ⟨gh, q, none⟩)) (show 0 + (i : Int).toNat * 1 = i * 1 by omega)))) <| hv1 (fun w hS => (yLd rfl isAgg3 (flat_cells0 (enc := Bx.encI) Bx.encI_len (row_at (hS.row (.slice (some ⟨gh, 0, none⟩) t.ticks.toNat ch0)) rfl (by omega)) hge2).one)) <| hv0 (fun w => (fa115_1 h9)) <| hv0 (fun w => (fa43_2 rfl)) <| hv0 (fun w => (fa41_1 rfl)) ?_
     refine hv2 (fun w hS => (yLdB rfl isAgg39 (hS.at _) rfl)) <| hv0 (fun w => (yMove rfl)) <| hv0 (fun w => (yIxQ rfl rfl rfl runUnderlying39 sizeOf3)) <| hv1 (fun w hS => (yLd rfl isAgg3 (sl_cell (hq2 w hS) hg2))) <| hv0 (fun w => (yMax rfl rfl)) <| hv0 (fun w => (Y.to (yIxQ rfl rfl rfl runUnderlying39 sizeOf3) (congrArg (fun q => Value.pointer (some ⟨gl, q, none⟩)) (show 0 + (i : Int).toNat * 1 = i * 1 by omega)))) <| hgnil ?_
     show wpR _ _ _ _ _ _ _ _ _ _ _ _
     refine r_step (i := 33) (is := []) (by kernel_rfl) ⟨?_, trivial⟩
     refine ⟨_, rfl, ?_⟩
     refine srst (m := t.ticks.toNat) (cap := cl0) (sz := 1) (vs := [.int .i64 (min (envLo t now i (k + 1)) ((lowB (boxAt (boxS t now) (k + 1))).getD i 0))]) hS rfl rfl sizeOf3 rfl rfl (by omega) rfl ?_; clear hS; intro w hS
     rw [env_store (f := envLo t now) hil (envLo_succ i (k + 1))] at hS
     refine nil ?_
     refine ⟨⟨fun h => absurd h (by decide), fun _ _ => (hS.sub (.cons_cons _ (.cons _ (.cons _ lrQ))))⟩, ?_⟩
     show wpR _ _ _ _ _ _ _ _ _ _ _ _
     refine r_step (i := 34) (is := []) (by kernel_rfl) ⟨?_, trivial⟩
     refine ⟨_, rfl, ?_⟩
     refine sv (Y.to (yIxQ rfl rfl rfl runUnderlying39 sizeOf3) (congrArg (fun q => Value.pointer (some ⟨gh, q, none⟩)) (show 0 + (i : Int).toNat * 1 = i * 1 by omega))) <| nil ?_
     refine ⟨⟨fun _ h => h, fun _ h => h⟩, ?_⟩
     show wpR _ _ _ _ _ _ _ _ _ _ _ _
     refine r_step (i := 35) (is := []) (by kernel_rfl) ⟨?_, trivial⟩
     refine ⟨_, rfl, ?_⟩
     refine srst (m := t.ticks.toNat) (cap := ch0) (sz := 1) (vs := [.int .i64 (max (envHi t now i (k + 1)) ((highB (boxAt (boxS t now) (k + 1))).getD i 0))]) hS rfl rfl sizeOf3 rfl rfl (by omega) rfl ?_; clear hS; intro w hS
     rw [env_store (f := envHi t now) hil (envHi_succ i (k + 1))] at hS
     refine nil ?_
     refine ⟨⟨fun h => absurd h (by decide), fun h => absurd h (by decide)⟩, ?_⟩
     show wpR _ _ _ _ _ _ _ _ _ _ _ _
     refine r_end (by kernel_rfl) <| cwQ <| region <| sv (yAdd h42 rfl ⟨by omega, by omega⟩) <| sv (yMove rfl) <| nil ?_
     exact ⟨_, _, rfl, ⟨i + 1, h4, h5, h33, h34, h35, h9, h41, rfl, hS, (by omega), rfl⟩, by omega⟩
    ·
     simp only [BS, ne_eq] at c43
     obtain rfl : i = t.ticks.toNat := by omega
     refine exit <| cwQ <| region <| sv (yAdd h35 rfl ⟨by omega, by omega⟩) <| sv (yMove rfl) <| nil ?_
     exact ⟨_, _, rfl, ⟨k + 1, h4, h5, h33, h34, rfl, (by rw [envK_next, envK_next] at hS; exact hS.sub (.cons _ lrQ)), (by omega), rfl⟩, by omega⟩
   ·
    simp only [BS, ne_eq] at c36
    have hkk : k + 1 = (boxS t now).length := by omega
    refine exit <| cwQ <| seq <| region_mix (fun w => StX [] w0 w (rowI (.slice (some ⟨gl, 0, none⟩) t.ticks.toNat cl0) 3 1 t.ticks.toNat ((envK (envLo t now) t.ticks.toNat (k + 1) (0)).flatMap Bx.encI) :: rowI (.slice (some ⟨gh, 0, none⟩) t.ticks.toNat ch0) 3 1 t.ticks.toNat ((envK (envHi t now) t.ticks.toNat (k + 1) (0)).flatMap Bx.encI) :: rowI (.slice (some ⟨gb, 0, none⟩) (boxS t now).length cv2) 115 9 (boxS t now).length (bxCs t.frm ((boxS t now).map Bo.mem) ms ls hs).flatten :: packI (inI ms ((boxS t now).map Bo.mem)) :: packI (inI (ls.drop 1) (((boxS t now).map lowB).drop 1)) :: packI (inI (hs.drop 1) (((boxS t now).map highB).drop 1)) :: blk b5 [.int .i64 t.frm, .slice (some ⟨gh, 0, none⟩) t.ticks.toNat ch0] 41 :: blk b4 [.int .i64 t.frm, .slice (some ⟨gl, 0, none⟩) t.ticks.toNat cl0] 41 :: [])) 3 mixed hS ?_
    clear hS; intro w hS
    refine fsQ 0 rfl (fun w hS => (yLdBA h4 isAgg41 sizeOf41 (hS.at _) rfl rfl)) <| fsQ 1 rfl (fun w hS => (yLdBA h5 isAgg41 sizeOf41 (hS.at _) rfl rfl)) <| awQ <| a1Q 2 (by kernel_rfl) rfl ?_
    refine sst hS h4 rfl sizeOf41 rfl rfl rfl rfl ?_; clear hS; intro w hS
    refine nil ?_
    refine ⟨fun _ => hS, ?_⟩
    refine awQ <| awQ <| a1Q 3 (by kernel_rfl) rfl ?_
    refine sst hS h5 rfl sizeOf41 rfl rfl rfl rfl ?_; clear hS; intro w hS
    refine nil ?_
    refine ⟨fun h => absurd h (by decide), ?_⟩
    refine awQ <| awQ <| a1Q 4 (by kernel_rfl) rfl <| sv (yAsg rfl) <| nil ?_
    refine ⟨fun h => absurd h (by decide), ?_⟩
    refine awQ <| a_end (by kernel_rfl) <| cwQ <| wp_ret <| retQ (resV3 rfl (rc h4 isAgg41 sizeOf41 (hS.at _) rfl rfl) (rc h5 isAgg41 sizeOf41 (hS.at _) rfl rfl) (rt rfl)) ?_
    have hf : envR t now = (⟨t.frm, (List.range t.ticks.toNat).map fun i => envLo t now i (boxS t now).length⟩, ⟨t.frm, (List.range t.ticks.toNat).map fun i => envHi t now i (boxS t now).length⟩, 0) := by unfold envR; rw [if_neg (fun k => k he)]
    rw [hf]
    rw [hkk] at hS
    exact ⟨_, _, [rowI (.slice (some ⟨gl, 0, none⟩) t.ticks.toNat cl0) 3 1 t.ticks.toNat ((envK (envLo t now) t.ticks.toNat ((boxS t now).length) (0)).flatMap Bx.encI), rowI (.slice (some ⟨gh, 0, none⟩) t.ticks.toNat ch0) 3 1 t.ticks.toNat ((envK (envHi t now) t.ticks.toNat ((boxS t now).length) (0)).flatMap Bx.encI)], rfl, fun w2 hi => ⟨by show Sl w2 1 RInt _ ((List.range t.ticks.toNat).map fun i => envLo t now i (boxS t now).length); rw [← envK_all]; exact sl_ints (hi (rowI (.slice (some ⟨gl, 0, none⟩) t.ticks.toNat cl0) 3 1 t.ticks.toNat ((envK (envLo t now) t.ticks.toNat ((boxS t now).length) (0)).flatMap Bx.encI)) (by simp)) envK_len (envK_i64 hok).1, by show Sl w2 1 RInt _ ((List.range t.ticks.toNat).map fun i => envHi t now i (boxS t now).length); rw [← envK_all]; exact sl_ints (hi (rowI (.slice (some ⟨gh, 0, none⟩) t.ticks.toNat ch0) 3 1 t.ticks.toNat ((envK (envHi t now) t.ticks.toNat ((boxS t now).length) (0)).flatMap Bx.encI)) (by simp)) envK_len (envK_i64 hok).2⟩, StX.pack (M := [rowI (.slice (some ⟨gl, 0, none⟩) t.ticks.toNat cl0) 3 1 t.ticks.toNat ((envK (envLo t now) t.ticks.toNat ((boxS t now).length) (0)).flatMap Bx.encI), rowI (.slice (some ⟨gh, 0, none⟩) t.ticks.toNat ch0) 3 1 t.ticks.toNat ((envK (envHi t now) t.ticks.toNat ((boxS t now).length) (0)).flatMap Bx.encI)]) (hS.sub (List.sublist_append_left [_, _] _))⟩
end Go.Proofs.YtgidbailiababaaGreatDoor

/- part Sx22 -/
namespace Go.Proofs.YtgidbailiababaaGreatDoor
open Go Bx Go.Proofs.Tryz
set_option maxHeartbeats 4000000 in
theorem c_Peak {t : Sgt} {cv : Value} {ag ak ae : Option Addr} {cg ck ce : Nat} {now : Int} {w0 : World} (h : RSgt w0 (scQ t cv ag ak ae cg ck ce) t) (hg : Glb w0) (hI : I64 now) : CV Tryz.prog 50 #[.agg (scQ t cv ag ak ae cg ck ce).toArray, .int .i64 now] w0 (.tuple #[.agg (spanC (peakR t now).1).toArray, .int .i64 (peakR t now).2]) := by
 obtain ⟨hT, hG, hw64, hf64, hk64, hC, hF, hl64, hm64, hr64, hq64⟩ := RSgt.parts h
 refine enter func50 rfl ntmps50 rfl ?_
 have hS := St.start w0
 refine seq <| region ?_
 refine sbox hS rfl rfl ?_; clear hS; intro b2 w hS
 refine salloc hS zeroValue74 rfl ?_; clear hS; intro b4 w hS
 refine sv (yAsg rfl) <| nil <| cwQ <| seq <| region <| sv (yLdBA rfl isAgg29 sizeOf29 (hS.at _) rfl rfl) <| sv (yMove rfl) ?_
 refine scall call93 (.cons rfl (.cons rfl .nil)) (c_someS (h.ext hS.ext) (hg.ext hS.ext) hI) ?_
 rintro _ w (⟨he, ev, rfl, hE⟩ | ⟨he, av, cv2, ms, ls, hs, rfl, hl, hM⟩)
 ·
  replace hS := hS.step hE; clear hE
  refine sv (yMove rfl) <| sv (yExt rfl rfl) <| sv (yExt rfl rfl) <| sv (yAsg rfl) <| sv (yAsg rfl) <| nil <| cwQ <| seq <| seq ?_
  refine region <| sv (yMove rfl) <| sv (yNeq rfl rfl) <| nil <| cwQ ?_
  refine cond rfl (fun c19 => ?_) (fun c19 => ?_)
  ·
   simp only [BS, ne_eq] at c19
   refine seq <| region <| sv (yBuild zeroValue74 rfl pl74 .nil rfl) <| sv (yMove rfl) ?_
   refine sst hS rfl rfl sizeOf74 rfl rfl rfl rfl ?_; clear hS; intro w hS
   refine sv (yAsg rfl) <| nil <| cwQ ?_
   refine wp_ret (thenR ?_)
   refine retQ (resV2 rfl (rc rfl isAgg74 sizeOf74 (hS.at _) rfl rfl) (rt rfl)) ?_
   have hf : peakR t now = (⟨0, 0⟩, smE t now) := by unfold peakR; rw [if_pos he]
   rw [hf]
   exact ⟨rfl, hS.ext⟩
  ·
   simp only [BS, ne_eq] at c19
   exact absurd c19 he
 ·
  replace hS := hS.call hM; clear hM
  obtain ⟨hl1, hl2, hl3⟩ := hl
  obtain ⟨hask, hpos⟩ := smE_box he
  obtain ⟨hok, hnow⟩ := askE_ok hask
  have htk := hok.tk
  have hbn : (boxS t now).length ≤ 625 := Nat.le_trans boxL_len (cho_bd hok)
  replace hS : StX [] w0 w (rowI (.slice av (boxS t now).length cv2) 115 9 (boxS t now).length (bxCs t.frm ((boxS t now).map Bo.mem) ms ls hs).flatten :: packI (inI ms ((boxS t now).map Bo.mem)) :: packI (inI ls ((boxS t now).map lowB)) :: packI (inI hs ((boxS t now).map highB)) :: blk b4 [.int .i64 0, .int .i64 0] 74 :: blk b2 (scQ t cv ag ak ae cg ck ce) 29 :: []) := hS
  refine sv (yMove rfl) <| sv (yExt rfl rfl) <| sv (yExt rfl rfl) <| sv (yAsg rfl) <| sv (yAsg rfl) <| nil <| cwQ <| seq <| seq ?_
  refine region <| sv (yMove rfl) <| sv (yNeq rfl rfl) <| nil <| cwQ ?_
  refine cond rfl (fun c19 => ?_) (fun c19 => ?_)
  ·
   exact absurd c19 (by decide)
  ·
   refine skip <| cwQ <| seq <| region <| sv (yAsg rfl) <| sv (yAsg rfl) <| nil <| cwQ <| seq ?_
   refine seq <| region <| sv (yMove rfl) <| sv (yLen rfl underlying110) <| sv (yMove rfl) <| nil <| cwQ <| block <| loop (fun f w zz => ∃ (k : Nat) (lv hv : Value), f 4 = ptQ b4 ∧ f 8 = lv ∧ f 9 = hv ∧ f 22 = .slice av (boxS t now).length cv2 ∧ f 23 = .int .i64 ((boxS t now).length : Int) ∧ f 24 = .int .i64 (k : Int) ∧ StX [] w0 w (rowI (lv) 3 1 (k) ((topLo t now (k)).flatMap Bx.encI) :: rowI (hv) 3 1 (k) ((topHi t now (k)).flatMap Bx.encI) :: rowI (.slice av (boxS t now).length cv2) 115 9 (boxS t now).length (bxCs t.frm ((boxS t now).map Bo.mem) ms ls hs).flatten :: packI (inI ms ((boxS t now).map Bo.mem)) :: packI (inI ls ((boxS t now).map lowB)) :: packI (inI hs ((boxS t now).map highB)) :: blk b4 [.int .i64 0, .int .i64 0] 74 :: []) ∧ (k ≤ (boxS t now).length) ∧ zz = (boxS t now).length - k) _ ⟨_, rfl, 0, _, _, rfl, rfl, rfl, rfl, rfl, rfl, (((hS.sub (List.sublist_append_left [_, _, _, _, _] _)).nilrow 3 1).nilrow 3 1), (Nat.zero_le _), rfl⟩ ?_
   clear hS
   rintro f w _ ⟨k, lv, hv, h4, h8, h9, h22, h23, h24, hS, hk, rfl⟩
   refine seq <| region <| sv (yLss h24 h23) <| nil <| cwQ <| seq ?_
   refine cond rfl (fun c25 => ?_) (fun c25 => ?_)
   ·
    simp only [BS, ne_eq] at c25
    have hkn : k < (boxS t now).length := by omega
    obtain ⟨gb, am, cm, al, cl, ah, ch, hgb, hcb, hes, -, -, -⟩ := (bx_at (hS.row (.slice av (boxS t now).length cv2)) hkn rfl hl1 hl2 hl3 (fun b hb => box_ok hok hb) (hS.ok (packI (inI ms ((boxS t now).map Bo.mem))) (by simp)) (hS.ok (packI (inI ls ((boxS t now).map lowB))) (by simp)) (hS.ok (packI (inI hs ((boxS t now).map highB))) (by simp)))
    have hb1 := box_ok hok (boxAt_mem hkn)
    have hn2 := (high_len (boxAt_mem hkn)).1
    have hn3 := (high_len (boxAt_mem hkn)).2
    refine skip <| cwQ <| seq <| block <| seq <| region <| sv (yIxQ h22 hgb h24 runUnderlying110 sizeOf115) <| sv (yLdA rfl isAgg115 sizeOf115 hcb rfl) ?_
    refine salloc hS zeroValue115 rfl ?_; clear hS; intro b11 w hS
    refine sst hS rfl rfl sizeOf115 rfl rfl rfl rfl ?_; clear hS; intro w hS
    refine nil <| cwQ <| region_mix (fun w => StX [] w0 w (blk b11 (bxC t.frm (boxAt (boxS t now) k).mem (.slice am (boxAt (boxS t now) k).mem.length cm) (.slice al (lowB (boxAt (boxS t now) k)).length cl) (.slice ah (highB (boxAt (boxS t now) k)).length ch)) 115 :: rowI (.slice av (boxS t now).length cv2) 115 9 (boxS t now).length (bxCs t.frm ((boxS t now).map Bo.mem) ms ls hs).flatten :: packI (inI ms ((boxS t now).map Bo.mem)) :: packI (inI ls ((boxS t now).map lowB)) :: packI (inI hs ((boxS t now).map highB)) :: [])) 18 mixed hS ?_
    clear hS; intro w hS
    have hq1 : ∀ w, StX [] w0 w (blk b11 (bxC t.frm (boxAt (boxS t now) k).mem (.slice am (boxAt (boxS t now) k).mem.length cm) (.slice al (lowB (boxAt (boxS t now) k)).length cl) (.slice ah (highB (boxAt (boxS t now) k)).length ch)) 115 :: rowI (.slice av (boxS t now).length cv2) 115 9 (boxS t now).length (bxCs t.frm ((boxS t now).map Bo.mem) ms ls hs).flatten :: packI (inI ms ((boxS t now).map Bo.mem)) :: packI (inI ls ((boxS t now).map lowB)) :: packI (inI hs ((boxS t now).map highB)) :: []) → Sl w 1 RInt (.slice al (lowB (boxAt (boxS t now) k)).length cl) (lowB (boxAt (boxS t now) k)) := fun w hS => by rw [← hes.2.1]; exact in_sl (f := lowB) (StX.ok (S := []) (w0 := w0) (L := blk b11 (bxC t.frm (boxAt (boxS t now) k).mem (.slice am (boxAt (boxS t now) k).mem.length cm) (.slice al (lowB (boxAt (boxS t now) k)).length cl) (.slice ah (highB (boxAt (boxS t now) k)).length ch)) 115 :: rowI (.slice av (boxS t now).length cv2) 115 9 (boxS t now).length (bxCs t.frm ((boxS t now).map Bo.mem) ms ls hs).flatten :: packI (inI ms ((boxS t now).map Bo.mem)) :: packI (inI ls ((boxS t now).map lowB)) :: packI (inI hs ((boxS t now).map highB)) :: []) hS (packI (inI ls ((boxS t now).map lowB))) (by simp)) hl2 hkn hb1.2.2.1
    have hq2 : ∀ w, StX [] w0 w (blk b11 (bxC t.frm (boxAt (boxS t now) k).mem (.slice am (boxAt (boxS t now) k).mem.length cm) (.slice al (lowB (boxAt (boxS t now) k)).length cl) (.slice ah (highB (boxAt (boxS t now) k)).length ch)) 115 :: rowI (.slice av (boxS t now).length cv2) 115 9 (boxS t now).length (bxCs t.frm ((boxS t now).map Bo.mem) ms ls hs).flatten :: packI (inI ms ((boxS t now).map Bo.mem)) :: packI (inI ls ((boxS t now).map lowB)) :: packI (inI hs ((boxS t now).map highB)) :: []) → Sl w 1 RInt (.slice ah (highB (boxAt (boxS t now) k)).length ch) (highB (boxAt (boxS t now) k)) := fun w hS => by rw [← hes.2.2]; exact in_sl (f := highB) (StX.ok (S := []) (w0 := w0) (L := blk b11 (bxC t.frm (boxAt (boxS t now) k).mem (.slice am (boxAt (boxS t now) k).mem.length cm) (.slice al (lowB (boxAt (boxS t now) k)).length cl) (.slice ah (highB (boxAt (boxS t now) k)).length ch)) 115 :: rowI (.slice av (boxS t now).length cv2) 115 9 (boxS t now).length (bxCs t.frm ((boxS t now).map Bo.mem) ms ls hs).flatten :: packI (inI ms ((boxS t now).map Bo.mem)) :: packI (inI ls ((boxS t now).map lowB)) :: packI (inI hs ((boxS t now).map highB)) :: []) hS (packI (inI hs ((boxS t now).map highB))) (by simp)) hl3 hkn hb1.2.2.2
    refine fsQ 0 rfl (fun w hS => (yMove h8)) <| fsQ 1 rfl (fun w hS => (fa115_1 rfl)) <| fsQ 2 rfl (fun w hS => (fa43_1 rfl)) <| fsQ 3 rfl (fun w hS => (fa41_1 rfl)) <| fsQ 4 rfl (fun w hS => (yLdB rfl isAgg39 (hS.at _) rfl)) <| fsQ 8 rfl (fun w hS => (yMove h9)) <| fsQ 9 rfl (fun w hS => (fa115_1 rfl)) <| fsQ 10 rfl (fun w hS => (fa43_2 rfl)) <| fsQ 11 rfl (fun w hS => (fa41_1 rfl)) ?_
    refine fsQ 12 rfl (fun w hS => (yLdB rfl isAgg39 (hS.at _) rfl)) <| awQ <| a1Q 5 (by kernel_rfl) rfl ?_
    refine scV hS call95 (.cons rfl .nil) (c_MaxI (hq1 w (sbQ hS)) (by omega)) ?_; clear hS; intro w hS
    refine nil <| kpQ <| awQ <| awQ <| a1Q 6 (by kernel_rfl) rfl ?_
    refine sbslice hS underlying39 sizeOf3 rfl zeroValue3 rfl (.cons rfl rfl .nil) rfl ?_; clear hS; intro b34 w hS
    refine nil <| kpQ <| awQ <| awQ <| a1Q 7 (by kernel_rfl) rfl ?_
    refine sapp (bytes := 8) (size := 1) (v := lv) (m := 1) hS rfl rfl underlying39 ti3 rfl rfl rfl rfl (by decide) (blk_cells (hS.at _)) rfl rfl (by omega) (by omega) ?_; clear hS; intro v35 w hS
    refine nil <| kpQ <| awQ <| awQ <| a1Q 13 (by kernel_rfl) rfl ?_
    refine scV hS call95 (.cons rfl .nil) (c_MaxI (hq2 w (sbQ hS)) (by omega)) ?_; clear hS; intro w hS
    refine nil <| kpQ <| awQ <| awQ <| a1Q 14 (by kernel_rfl) rfl ?_
    refine sbslice hS underlying39 sizeOf3 rfl zeroValue3 rfl (.cons rfl rfl .nil) rfl ?_; clear hS; intro b42 w hS
    refine nil <| kpQ <| awQ <| awQ <| a1Q 15 (by kernel_rfl) rfl ?_
    refine sapp (bytes := 8) (size := 1) (v := hv) (m := 1) hS rfl rfl underlying39 ti3 rfl rfl rfl rfl (by decide) (blk_cells (hS.at _)) rfl rfl (by omega) (by omega) ?_; clear hS; intro v43 w hS
    refine nil <| kpQ <| awQ <| fsQ 16 rfl (fun w hS => (yAsg rfl)) <| fsQ 17 rfl (fun w hS => (yAsg rfl)) <| a_end (by kernel_rfl) <| cwQ <| region <| sv (yAdd h24 rfl ⟨by omega, by omega⟩) ?_
    refine sv (yMove rfl) <| nil ?_
    exact ⟨_, _, rfl, ⟨k + 1, _, _, h4, rfl, rfl, h22, h23, rfl, (by rw [topLo_succ, topHi_succ, List.flatMap_append, List.flatMap_append]; exact sbQ hS), (by omega), rfl⟩, by omega⟩
   ·
    simp only [BS, ne_eq] at c25
    obtain rfl : k = (boxS t now).length := by omega
    have hi64 := topLo_i64 hok (Nat.le_refl (boxS t now).length)
    refine exit <| cwQ <| seq <| region <| sv (yMove h8) ?_
    refine scV hS call96 (.cons rfl .nil) (c_MinI2 (sl_ints (hS.row lv) (topLo_len _) hi64.1) (by rw [topLo_len]; exact hpos)) ?_; clear hS; intro w hS
    refine sv (yMove h9) ?_
    refine scV hS call95 (.cons rfl .nil) (c_MaxI (sl_ints (hS.row hv) (topHi_len _) hi64.2) (by rw [topHi_len]; exact hpos)) ?_; clear hS; intro w hS
    refine sv (yBuild zeroValue74 rfl pl74 (.cons rfl rfl (.cons rfl rfl .nil)) rfl) ?_
    refine sst hS h4 rfl sizeOf74 rfl rfl rfl rfl ?_; clear hS; intro w hS
    refine sv (yAsg rfl) <| nil <| cwQ <| wp_ret <| retQ (resV2 rfl (rc h4 isAgg74 sizeOf74 (hS.at _) rfl rfl) (rt rfl)) ?_
    have hf : peakR t now = (⟨peakLo t now (boxS t now).length, peakHi t now (boxS t now).length⟩, 0) := by unfold peakR; rw [if_neg (fun k => k he)]
    rw [hf, ← botL_peak hpos, ← topL_peak hpos]
    exact ⟨rfl, hS.ext⟩
end Go.Proofs.YtgidbailiababaaGreatDoor

/- part S32 -/
namespace Bx
open Go Go.RowKit
section
variable {x : Sea} {f : Fct} {m k : Nat} {now : Int}
theorem ints_i64 {w : World} {v : Value} {l : List Int} (h : Sl w 1 RInt v l) : ∀ p ∈ l, I64 p := fun p hp => by
  obtain ⟨i, hi, rfl⟩ := List.getElem_of_mem hp
  obtain ⟨a, cap, -, -, -, hel⟩ := h
  obtain ⟨b, o, cs, -, -, -, -, h1⟩ := hel i hi
  exact h1
end
theorem RSea.ext {w w' : World} {cs : List Value} {x : Sea} (h : RSea w cs x) (e : Ext w w') : RSea w' cs x := by
  obtain ⟨c1, v1, v2, rfl, h1, h2, h3⟩ := h
  exact ⟨c1, v1, v2, rfl, h1.ext e, h2.ext RInt.stays e, h3.ext RU8.stays e⟩
theorem cntR_snoc (p : Nat → Bool) : ∀ (n i : Nat), cntR p i (n + 1) = cntR p i n + if p (i + n) = true then 1 else 0
  | 0, i => by rw [cntR, cntR, cntR, Nat.add_zero, Nat.zero_add, Nat.add_zero]
  | n + 1, i => by rw [cntR, cntR_snoc p n (i + 1), cntR, show i + 1 + n = i + (n + 1) by omega]; omega
theorem cntR_bd (p : Nat → Bool) : ∀ (n i : Nat), cntR p i n ≤ n
  | 0, _ => Nat.le_refl _
  | n + 1, i => by rw [cntR]; have := cntR_bd p n (i + 1); split <;> omega
theorem cnt_no {p : Nat → Bool} {k : Nat} (h : p k = false) : ((cntR p 0 k : Nat) : Int) = ((cntR p 0 (k + 1) : Nat) : Int) := by rw [cntR_snoc, Nat.zero_add, h]; rfl
theorem cnt_yes {p : Nat → Bool} {k : Nat} (h : p k = true) : ((cntR p 0 k : Nat) : Int) + 1 = ((cntR p 0 (k + 1) : Nat) : Int) := by rw [cntR_snoc, Nat.zero_add, h]; rfl
end Bx

/- part S34 -/
namespace Bx
open Go Go.RowKit
def rE (l : List Gauge) (g : Gauge) (k : Nat) : Int := if (checkG g).2.2 ≠ 0 then (checkG g).2.2 else if memB g.name ((l.take k).map (·.name)) = true then 5 else 0
section
variable {l : List Gauge} {g x : Gauge} {k i : Nat}
theorem rE_0 : rE l g 0 = (checkG g).2.2 := by
  unfold rE
  split
  · rfl
  next h => rw [if_neg (by simp [memB])]; exact (Decidable.not_not.1 h).symm
theorem rE_zero (h : rE l g k = 0) : (checkG g).2.2 = 0 ∧ memB g.name ((l.take k).map (·.name)) = false := by
  unfold rE at h
  split at h
  next h1 => exact absurd h h1
  next h1 =>
  split at h
  · simp at h
  next h2 => exact ⟨Decidable.not_not.1 h1, by simpa using h2⟩
theorem rE_yes (h : rE l g k = 0) (hx : l[k]? = some x) (he : x.name = g.name) : rE l g (k + 1) = 5 := by
  obtain ⟨h1, h2⟩ := rE_zero h
  unfold rE
  rw [if_neg (fun q => q h1), if_pos]
  rw [memB_iff, take_snoc hx, List.map_append]
  exact List.mem_append_right _ (by simp [he])
theorem rE_no (h : rE l g k = 0) (hx : l[k]? = some x) (he : ¬ x.name = g.name) : rE l g (k + 1) = 0 := by
  obtain ⟨h1, h2⟩ := rE_zero h
  unfold rE
  rw [if_neg (fun q => q h1), if_neg]
  rw [memB_iff, take_snoc hx, List.map_append]
  intro hm
  rcases List.mem_append.1 hm with hm | hm
  · rw [← memB_iff, h2] at hm; cases hm
  · simp at hm; exact he hm.symm
theorem rE_stop (h : rE l g k ≠ 0) (hk : k ≤ i) : rE l g i = rE l g k := by
  unfold rE at *
  split
  · rfl
  next h1 =>
  rw [if_neg h1] at h
  split at h
  next h2 =>
    rw [if_pos h2, if_pos]
    rw [memB_iff] at *
    obtain ⟨y, hy, he⟩ := List.mem_map.1 h2
    obtain ⟨j, hj, rfl⟩ := List.getElem_of_mem hy
    refine List.mem_map.2 ⟨_, ?_, he⟩
    rw [List.length_take] at hj
    rw [List.getElem_take]
    exact List.mem_of_getElem? (i := j) (by rw [List.getElem?_take, if_pos (by omega)]; exact List.getElem?_eq_getElem (by omega))
  next h2 => exact absurd rfl h
theorem gE_rE : gE l i = rE l (gau l i) i := rfl
end
theorem wrong_in (t : Sgt) : (!inB t.wrong 0 (max ((t.gauges.length : Int) - 1) 0)) = wrongB t := by
  rw [inB_not]
  unfold wrongB
  rw [Bool.eq_iff_iff, Bool.and_eq_true, outB_true, outB_true, decide_eq_true_eq]
  omega
theorem any_take_no {α : Type} {p : α → Bool} {l : List α} {k : Nat} {x : α} (hx : l[k]? = some x) (h : (l.take k).any p = false) (hp : p x = false) : (l.take (k + 1)).any p = false := by
  rw [take_snoc hx, List.any_append, h]; simp [hp]
theorem any_take_yes {α : Type} {p : α → Bool} {l : List α} {k i : Nat} {x : α} (hx : l[k]? = some x) (hk : k < i) (hp : p x = true) : (l.take i).any p = true :=
  List.any_eq_true.2 ⟨x, List.mem_of_getElem? (i := k) (by rw [List.getElem?_take, if_pos hk]; exact hx), hp⟩
theorem any_yes {α : Type} {p : α → Bool} {l : List α} {k : Nat} {x : α} (hx : l[k]? = some x) (hp : p x = true) : l.any p = true := List.any_eq_true.2 ⟨x, List.mem_of_getElem? hx, hp⟩
theorem flat_yes {p : Int → Bool} {ls : List (List Int)} {k j : Nat} {l : List Int} {x : Int} (h1 : ls[k]? = some l) (h2 : l[j]? = some x) (hp : p x = true) : ls.flatten.any p = true :=
  List.any_eq_true.2 ⟨x, List.mem_flatten.2 ⟨l, List.mem_of_getElem? h1, List.mem_of_getElem? h2⟩, hp⟩
theorem flat_no {p : Int → Bool} {ls : List (List Int)} {k : Nat} {l : List Int} (hx : ls[k]? = some l) (h : (ls.take k).flatten.any p = false) (hp : l.any p = false) : (ls.take (k + 1)).flatten.any p = false := by
  rw [take_snoc hx, List.flatten_append, List.any_append, h]; simpa using hp
section
variable {f : Fct} {k : Nat}
theorem longM_in (h : outB f.members.length 1 4 = true) : longM f = true := by unfold longM; rw [h]; rfl
theorem longM_one (h : (f.members.any fun l => outB l.length 1 200) = true) : longM f = true := by unfold longM; rw [h, Bool.or_true]
theorem longM_no (h1 : outB f.members.length 1 4 = false) (h2 : (f.members.any fun l => outB l.length 1 200) = false) : longM f = false := by unfold longM; rw [h1, h2]; rfl
end
theorem ask_tick (t : Sgt) (now : Int) (h : (checkS t).2.2 = 0) (hn : inB now 0 200000 = false) : askE t now = 7 := by
  unfold askE
  rw [if_neg (fun k => k h), if_pos (by rw [← inB_not, hn]; rfl)]
theorem ask_bad (t : Sgt) (now : Int) (h : (checkS t).2.2 ≠ 0) : askE t now = (checkS t).2.2 := by unfold askE; rw [if_pos h]
theorem ask_ok (t : Sgt) (now : Int) (h : (checkS t).2.2 = 0) (hn : inB now 0 200000 = true) : askE t now = 0 := by
  unfold askE
  rw [if_neg (fun k => k h), if_neg (by rw [← inB_not, hn]; decide)]
theorem mem_at {f : Fct} {k : Nat} (h : k < f.members.length) : f.members[k]? = some (mem f k) := by simp [mem, h]
end Bx

/- part S35 -/
namespace Bx
open Go Go.RowKit
section
variable {t : Sgt} {now : Int} {k : Nat} {v u : Int}
def curL (t : Sgt) (now : Int) (k : Nat) (v : Int) : List Int := (List.range t.ctrs.length).map fun i => if i < k then curOf t now i else if i = k then v else 0
theorem curL_len : (curL t now k v).length = t.ctrs.length := by simp [curL]
theorem curL_get {i : Nat} (h : i < t.ctrs.length) : (curL t now k v)[i]? = some (if i < k then curOf t now i else if i = k then v else 0) := by simp [curL, h]
theorem curL_at (h : k < t.ctrs.length) : (curL t now k v)[k]? = some v := by rw [curL_get h, if_neg (Nat.lt_irrefl _), if_pos rfl]
theorem curL_set (h : k < t.ctrs.length) : (curL t now k v).set k u = curL t now k u := by
  apply List.ext_getElem?
  intro i
  rw [List.getElem?_set, curL_len]
  by_cases hi : i < t.ctrs.length
  · rw [curL_get hi, curL_get hi]
    by_cases e : k = i
    · subst e
      rw [if_pos rfl, if_pos h, if_neg (Nat.lt_irrefl _), if_pos rfl]
    · rw [if_neg e]
      by_cases h2 : i < k
      · rw [if_pos h2, if_pos h2]
      · rw [if_neg h2, if_neg h2, if_neg (fun q => e q.symm), if_neg (fun q => e q.symm)]
  · rw [List.getElem?_eq_none (by rw [curL_len]; omega), List.getElem?_eq_none (by rw [curL_len]; omega), if_neg (by omega)]
theorem curL_store (h : k < t.ctrs.length) : splice ((curL t now k v).flatMap encI) (k * 1) [.int .i64 u] = (curL t now k u).flatMap encI := by
  rw [← curL_set (t := t) (now := now) (k := k) (v := v) (u := u) h]
  exact splice_enc encI_len (curL t now k v) k u (by rw [curL_len]; exact h)
theorem curL_0 : (List.replicate t.ctrs.length [Value.int .i64 0]).flatten = (curL t now 0 0).flatMap encI := by
  have e : curL t now 0 0 = List.replicate t.ctrs.length 0 := by
    apply List.ext_getElem?
    intro i
    by_cases hi : i < t.ctrs.length
    · rw [curL_get hi, if_neg (Nat.not_lt_zero _)]; simp [hi]
    · rw [List.getElem?_eq_none (by rw [curL_len]; omega), List.getElem?_eq_none (by simp; omega)]
  rw [e, List.flatMap_def, List.map_replicate]; rfl
theorem curL_next : curL t now k (curOf t now k) = curL t now (k + 1) 0 := by
  unfold curL
  refine List.map_congr_left fun i _ => ?_
  by_cases h : i < k
  · rw [if_pos h, if_pos (by omega)]
  · rw [if_neg h]
    by_cases e : i = k
    · subst e; rw [if_pos rfl, if_pos (Nat.lt_succ_self _)]
    · rw [if_neg e, if_neg (by omega)]; split <;> rfl
theorem curL_all : curL t now t.ctrs.length 0 = curS t now := by
  unfold curL curS
  exact List.map_congr_left fun i hi => by rw [if_pos (List.mem_range.1 hi)]
theorem hour_eq (f : Fct) (tick : Int) : (max 0 (tick - f.issued) + 6 - 1) / 6 = hourS f tick := by
  unfold hourS
  split <;> omega
theorem ask_same (h : (decide ((checkS t).2.2 = 0) && !inB now 0 200000) = false) : askE t now = (checkS t).2.2 := by
  by_cases h0 : (checkS t).2.2 = 0
  · rw [decide_eq_true h0, Bool.true_and] at h
    rw [ask_ok t now h0 (by simpa using h), h0]
  · exact ask_bad t now h0
theorem ask_seven (h : (decide ((checkS t).2.2 = 0) && !inB now 0 200000) = true) : askE t now = 7 := by
  rw [Bool.and_eq_true, decide_eq_true_eq] at h
  exact ask_tick t now h.1 (by simpa using h.2)
theorem need_cnt : min ((cntR (fun i => decide (0 ≤ curOf t now i)) 0 t.ctrs.length : Nat) : Int) t.quorum = needS t now := by unfold needS; rw [many_cnt]
theorem tub_in {f : Fct} {m : List Int} {i : Nat} (h : outB (t.frm + (i : Int) - f.frm) 0 ((m.length : Int) - 1) = false) : tubeAt t f m i = ⟨(tideS t i).lo + m.getD (t.frm + i - f.frm).toNat 0 - wrongS t f (t.frm + i), (tideS t i).hi + m.getD (t.frm + i - f.frm).toNat 0 + wrongS t f (t.frm + i)⟩ := by
  have := outB_false.1 h
  unfold tubeAt
  rw [if_pos (by omega)]
theorem tub_out {f : Fct} {m : List Int} {i : Nat} (h : outB (t.frm + (i : Int) - f.frm) 0 ((m.length : Int) - 1) = true) : tubeAt t f m i = ⟨-20000, 20000⟩ := by
  have := outB_true.1 h
  unfold tubeAt
  rw [if_neg (by omega)]
end
end Bx

/- part S36 -/
namespace Bx
open Go Go.RowKit
section
variable {t : Sgt} {now : Int} {k : Nat}
theorem base_cut (h1 : 0 < t.gauges.length) (h2 : (soundF t.gauges t.wrong (t.frm + (k : Int)) now).2 = 0) : baseAt t now k = cutS (surgeAt t k) (soundF t.gauges t.wrong (t.frm + (k : Int)) now).1 := by
  unfold baseAt
  rw [if_pos ⟨fun e => by rw [e] at h1; exact absurd h1 (Nat.lt_irrefl 0), h2⟩]
theorem base_no (h : t.gauges.length = 0 ∨ (soundF t.gauges t.wrong (t.frm + (k : Int)) now).2 ≠ 0) : baseAt t now k = surgeAt t k := by
  unfold baseAt
  rw [if_neg]
  rintro ⟨h1, h2⟩
  rcases h with h | h
  · exact h1 (List.eq_nil_of_length_eq_zero h)
  · exact h h2
end
section
variable {r : Int} {l : List Span} {i k : Nat}
def someK (r : Int) (l : List Span) : Nat → Bool
  | 0 => true
  | k + 1 => (someK r l k && decide ((spn l k).lo ≤ (spn l k).hi)) && decide ((tgS r l k).lo ≤ (tgS r l k).hi)
theorem someK_iff : ∀ k, someK r l k = true ↔ ∀ i, i < k → (spn l i).lo ≤ (spn l i).hi ∧ (tgS r l i).lo ≤ (tgS r l i).hi
  | 0 => ⟨fun _ i hi => absurd hi (Nat.not_lt_zero _), fun _ => rfl⟩
  | k + 1 => by
    rw [someK, Bool.and_eq_true, Bool.and_eq_true, decide_eq_true_eq, decide_eq_true_eq, someK_iff k]
    exact ⟨fun ⟨⟨a, b⟩, c⟩ i hi => by
      by_cases e : i = k
      · subst e; exact ⟨b, c⟩
      · exact a i (by omega), fun h => ⟨⟨fun i hi => h i (by omega), (h k (Nat.lt_succ_self _)).1⟩, (h k (Nat.lt_succ_self _)).2⟩⟩
theorem someK_all : someK r l l.length = someT r l := by
  rw [Bool.eq_iff_iff, someK_iff, someT_iff]
  exact ⟨fun h => ⟨fun i hi => (h i hi).1, fun i hi => (h i hi).2⟩, fun ⟨a, b⟩ i hi => ⟨a i hi, b i hi⟩⟩
theorem rtg_sbd {B : Int} (hl : LBd B l) (hi : i < l.length) (hr : 0 ≤ r ∧ r ≤ 5000) (hn : l.length ≤ 96) : ∀ k, k ≤ l.length → SBd (B + 500000) (rtgS r l i k)
  | 0, _ => (hl i hi).mono (by omega)
  | k + 1, hk => by
    rw [rtgS_succ]
    refine cut_sbd (rtg_sbd hl hi hr hn k (by omega)) ?_
    have h1 := hl k (by omega)
    have hm : 0 ≤ max ((i : Int) - k) ((k : Int) - i) ∧ max ((i : Int) - k) ((k : Int) - i) ≤ 96 := by omega
    have h2 := Int.mul_nonneg hr.1 hm.1
    have h3 : r * max ((i : Int) - k) ((k : Int) - i) ≤ 5000 * 96 := Int.mul_le_mul hr.2 hm.2 hm.1 (by decide)
    generalize r * max ((i : Int) - k) ((k : Int) - i) = q at *
    unfold SBd at *
    simp only
    omega
theorem far_bd (hr : 0 ≤ r ∧ r ≤ 5000) (hi : i < 96) (hk : k < 96) : 0 ≤ r * max ((i : Int) - k) ((k : Int) - i) ∧ r * max ((i : Int) - k) ((k : Int) - i) ≤ 480000 := by
  have hm : 0 ≤ max ((i : Int) - k) ((k : Int) - i) ∧ max ((i : Int) - k) ((k : Int) - i) ≤ 96 := by omega
  have h2 := Int.mul_nonneg hr.1 hm.1
  have h3 : r * max ((i : Int) - k) ((k : Int) - i) ≤ 5000 * 96 := Int.mul_le_mul hr.2 hm.2 hm.1 (by decide)
  omega
end
section
variable {t : Sgt} {now : Int} {s : Ser} {k : Nat}
end
section
variable {t : Sgt} {now : Int} {v : List Int} {k : Nat} {b c : Bool}
end
end Bx

/- part Sy1 -/
namespace Go.Proofs.YtgidbailiababaaGreatDoor
open Go Bx Go.Proofs.Tryz
set_option maxHeartbeats 1000000 in
theorem c_rgausS {t : Sgt} {cs : List Value} {w0 : World} (h : RSgt w0 cs t) : CV Tryz.prog 60 #[.agg cs.toArray] w0 (.tuple #[.int .i64 (gausE t).1, .int .i64 (gausE t).2]) := by
 obtain ⟨cv, gv, tv, fv, rfl, hT, hG, hw64, hf64, hk64, hC, hF, hl64, hm64, hr64, hq64⟩ := id h
 obtain ⟨ag, cg, rfl, hgcap, hgmx, hgel⟩ := id hG
 obtain ⟨ak, ck, rfl, hkcap, hkmx, hkel⟩ := id hC
 obtain ⟨ae, ce, rfl, hecap, hemx, heel⟩ := id hF
 refine enter func60 rfl ntmps60 rfl ?_
 have hS := St.start w0
 refine seq <| region ?_
 refine sbox hS rfl rfl ?_; clear hS; intro b1 w hS
 refine sv (yAsg rfl) <| sv (yAsg rfl) <| nil <| cwQ <| seq <| seq <| region <| sv (fa29_1 rfl) <| sv (yLdB rfl isAgg25 (hS.at _) rfl) ?_
 refine sv (yLen rfl underlying25) <| sv (yGtr rfl rfl) <| nil <| cwQ ?_
 refine cond rfl (fun c12 => ?_) (fun c12 => ?_)
 ·
  simp only [BS, ne_eq] at c12
  refine seq <| region <| sv (yAsg rfl) <| sv (yAsg rfl) <| nil <| cwQ ?_
  have hfin : gausE t = (0, 3) := by unfold gausE; rw [if_pos c12]
  refine wp_ret (thenR ?_)
  exact retV (res2 rfl (by rw [hfin]; rfl) (by rw [hfin]; rfl)) hS.ext
 ·
  simp only [BS, ne_eq] at c12
  refine skip <| cwQ <| seq <| seq <| region <| sv (yAsg rfl) <| nil <| cwQ <| block ?_
  refine loop (fun f w zz => ∃ (k : Nat), f 1 = ptQ b1 ∧ f 4 = .int .i64 (k : Int) ∧ StX [] w0 w [blk b1 (scQ t cv ag ak ae cg ck ce) 29] ∧ (k ≤ t.gauges.length) ∧ (firstN (gE t.gauges) t.gauges.length 0 = firstN (gE t.gauges) (t.gauges.length - k) k) ∧ zz = t.gauges.length - k) _ ⟨_, rfl, 0, rfl, rfl, hS, (Nat.zero_le _), (rfl), rfl⟩ ?_
  clear hS
  rintro f w _ ⟨k, h1, h4, hS, hk, hI, rfl⟩
  refine seq <| seq <| region <| sv (yMove h4) <| sv (fa29_1 h1) <| sv (yLdB rfl isAgg25 (hS.at _) rfl) <| sv (yLen rfl underlying25) <| sv (yLss rfl rfl) <| nil ?_
  refine cwQ ?_
  refine cond rfl (fun c17 => ?_) (fun c17 => ?_)
  ·
   simp only [BS, ne_eq] at c17
   have hkl : k < t.gauges.length := by omega
   obtain ⟨bg, og, csg, hag, hlng, hcg, hRg, -⟩ := sl_at hG (gau_get (l := t.gauges) (i := k) (by omega))
   obtain ⟨dv, rv, rfl, hgn, -⟩ := id hRg
   refine skip <| cwQ <| seq <| block <| seq <| region <| sv (fa29_1 h1) <| sv (yLdB rfl isAgg25 (hS.at _) rfl) <| sv (yMove h4) ?_
   refine sv (yIxQ rfl hag rfl runUnderlying25 sizeOf68) <| sv (yLdA rfl isAgg68 sizeOf68 (hcg.ext hS.ext) hlng) ?_
   refine scV hS call116 (.cons rfl .nil) (c_rCheckGauge (hRg.ext hS.ext)) ?_; clear hS; intro w hS
   refine sv (yMove rfl) <| sv (yExt rfl rfl) <| sv (yExt rfl rfl) <| sv (yExt rfl rfl) <| sv (yAsg rfl) <| sv (yAsg rfl) <| sv (yAsg rfl) <| nil <| cwQ ?_
   refine seq <| seq <| region <| sv (yAsg rfl) <| nil <| cwQ <| block <| loop (fun f w zz => ∃ (j : Nat) (E : Int), f 1 = ptQ b1 ∧ f 4 = .int .i64 (k : Int) ∧ f 7 = .int .i64 E ∧ f 8 = .int .i64 (j : Int) ∧ StX [] w0 w [blk b1 (scQ t cv ag ak ae cg ck ce) 29] ∧ (j ≤ k) ∧ (E = rE t.gauges (gau t.gauges k) j) ∧ zz = k - j) _ ⟨_, rfl, 0, _, h1, h4, rfl, rfl, hS, (Nat.zero_le _), (rE_0.symm), rfl⟩ ?_
   clear hS
   rintro f w _ ⟨j, E, h1, h4, h7, h8, hS, hj, hE, rfl⟩
   refine seq <| seq <| region <| sv (yMove h8) <| sv (yMove h4) <| sv (yLss rfl rfl) <| sv (yMove rfl) ?_
   refine sg rfl rfl rfl (fun g => (yMove h7)) (fun v34 g34 => ?_)
   refine sg rfl rfl rfl (fun g => (yEql (g34.1 g) rfl)) (fun v35 g35 => ?_)
   refine sv (yAnd rfl (fun hB => (g35.1 hB)) rfl) <| nil <| cwQ ?_
   refine cond rfl (fun c36 => ?_) (fun c36 => ?_)
   ·
    simp only [BS, ne_eq] at c36
    have hjk : j < k := by omega
    have he0 : E = 0 := c36.2
    obtain ⟨bj, oj, csj, haj, hlnj, hcj, hRj, -⟩ := sl_at hG (gau_get (l := t.gauges) (i := j) (by omega))
    obtain ⟨dvj, rvj, rfl, -⟩ := hRj
    refine skip <| cwQ <| seq <| block <| seq <| region_draw mixed (by kernel_rfl) hS <| qv (fun w hS => (fa29_1 h1)) <| qv (fun w hS => (yLdB rfl isAgg25 (hS.at _) rfl)) <| qv (fun w hS => (yMove h8)) ?_
    refine qv (fun w hS => (yIxQ rfl haj rfl runUnderlying25 sizeOf68)) <| qv (fun w hS => (fa68_0 rfl)) <| qv (fun w hS => (yLd rfl isAgg9 ((hcj.ext hS.ext).at (j := 0) rfl))) <| qv (fun w hS => (fa29_1 h1)) <| qv (fun w hS => (yLdB rfl isAgg25 (hS.at _) rfl)) <| qv (fun w hS => (yMove h4)) <| qv (fun w hS => (yIxQ rfl hag rfl runUnderlying25 sizeOf68)) <| qv (fun w hS => (fa68_0 rfl)) <| qv (fun w hS => (yLd rfl isAgg9 ((hcg.ext hS.ext).at (j := 0) rfl))) ?_
    refine qv (fun w hS => (ySEq rfl rfl)) ?_
    clear hS; refine qnil (fun w hS => ?_)
    refine cwQ ?_
    refine cond rfl (fun c51 => ?_) (fun c51 => ?_)
    ·
     simp only [BS, ne_eq] at c51
     refine region <| sv (yAsg rfl) <| nil <| cwQ <| region <| sv (yMove h8) <| sv (yAdd rfl rfl ⟨by omega, by omega⟩) <| sv (yAsg rfl) <| nil ?_
     exact ⟨_, _, rfl, ⟨j + 1, _, h1, h4, rfl, rfl, hS, (by omega), ((rE_yes (hE.symm.trans he0) (gau_get (by omega)) c51).symm), rfl⟩, by omega⟩
    ·
     simp only [BS, ne_eq] at c51
     refine skip <| cwQ <| region <| sv (yMove h8) <| sv (yAdd rfl rfl ⟨by omega, by omega⟩) <| sv (yAsg rfl) <| nil ?_
     exact ⟨_, _, rfl, ⟨j + 1, _, h1, h4, h7, rfl, hS, (by omega), (by rw [rE_no (hE.symm.trans he0) (gau_get (by omega)) c51]; exact he0), rfl⟩, by omega⟩
   ·
    simp only [BS, ne_eq] at c36
    have hEi : E = rE t.gauges (gau t.gauges k) k := by
     by_cases h0 : E = 0
     ·
      obtain rfl : j = k := by omega
      exact hE
     ·
      rw [rE_stop (by rw [← hE]; exact h0) hj]; exact hE
    refine exit <| cwQ <| seq <| region <| sv (yMove h7) <| sv (yNeq rfl rfl) <| nil <| cwQ ?_
    refine cond rfl (fun c53 => ?_) (fun c53 => ?_)
    ·
     simp only [BS, ne_eq] at c53
     refine seq <| region <| sv (yMove h4) <| sv (yMove h7) <| sv (yAsg rfl) <| sv (yAsg rfl) <| nil <| cwQ ?_
     have hN : firstN (gE t.gauges) t.gauges.length 0 = ((k : Int), E) := by rw [hI, firstN_at (by omega) (by rw [gE_rE, ← hEi]; exact c53), gE_rE, ← hEi]
     have hfin : gausE t = ((k : Int), E) := by unfold gausE; rw [if_neg c12, if_pos (by rw [hN]; exact c53), hN]
     refine wp_ret (blockR (thenR (thenR (blockR (thenR ?_)))))
     exact retV (res2 rfl (by rw [hfin]; rfl) (by rw [hfin]; rfl)) hS.ext
    ·
     simp only [BS, ne_eq] at c53
     refine skip <| cwQ <| region <| sv (yMove h4) <| sv (yAdd rfl rfl ⟨by omega, by omega⟩) <| sv (yAsg rfl) <| nil ?_
     exact ⟨_, _, rfl, ⟨k + 1, h1, rfl, hS, (by omega), (by rw [hI]; exact firstN_go (by omega) (by rw [gE_rE]; exact (hEi.symm.trans (by omega)))), rfl⟩, by omega⟩
  ·
   simp only [BS, ne_eq] at c17
   obtain rfl : k = t.gauges.length := by omega
   have he : (firstN (gE t.gauges) t.gauges.length 0).2 = 0 := by rw [hI, Nat.sub_self]; rfl
   refine exit <| cwQ <| seq <| seq <| region <| sv (fa29_2 h1) <| sv (yLdB rfl isAgg3 (hS.at _) rfl) <| sv (fa29_1 h1) <| sv (yLdB rfl isAgg25 (hS.at _) rfl) ?_
   refine sv (yLen rfl underlying25) <| sv (ySub rfl rfl ⟨by omega, by omega⟩) <| sv (yMax rfl rfl) ?_
   refine scV hS call58 (.cons rfl (.cons rfl (.cons rfl .nil))) c_inS ?_; clear hS; intro w hS
   refine sv (yNot rfl) <| nil <| cwQ ?_
   refine cond rfl (fun c64 => ?_) (fun c64 => ?_)
   ·
    rw [wrong_in] at c64
    refine seq <| region <| sv (yAsg rfl) <| sv (yAsg rfl) <| nil <| cwQ ?_
    have hfin : gausE t = (0, 7) := by unfold gausE; rw [if_neg c12, if_neg (fun k => k he), if_pos c64]
    refine wp_ret (thenR ?_)
    exact retV (res2 rfl (by rw [hfin]; rfl) (by rw [hfin]; rfl)) hS.ext
   ·
    rw [wrong_in] at c64
    refine skip <| cwQ <| seq <| region <| sv (yAsg rfl) <| sv (yAsg rfl) <| nil <| cwQ ?_
    have hfin : gausE t = (0, 0) := by unfold gausE; rw [if_neg c12, if_neg (fun k => k he), if_neg (by rw [c64]; decide)]
    refine wp_ret ?_
    exact retV (res2 rfl (by rw [hfin]; rfl) (by rw [hfin]; rfl)) hS.ext
set_option maxHeartbeats 1000000 in
theorem c_rcentS {t : Sgt} {cs : List Value} {i : Nat} {w0 : World} (h : RSgt w0 cs t) (hi : i < t.ctrs.length) : CV Tryz.prog 61 #[.agg cs.toArray, .int .i64 (i : Int)] w0 (.int .i64 (cE t.ctrs i)) := by
 obtain ⟨cv, gv, tv, fv, rfl, hT, hG, hw64, hf64, hk64, hC, hF, hl64, hm64, hr64, hq64⟩ := id h
 obtain ⟨ag, cg, rfl, hgcap, hgmx, hgel⟩ := id hG
 obtain ⟨ak, ck, rfl, hkcap, hkmx, hkel⟩ := id hC
 obtain ⟨ae, ce, rfl, hecap, hemx, heel⟩ := id hF
 obtain ⟨bx, ox, cx, hax, hlx, hcx, hRx, -⟩ := sl_at hC (ctr_get hi)
 obtain ⟨rfl, hnm, -⟩ := hRx
 refine enter func61 rfl ntmps61 rfl ?_
 have hS := St.start w0
 refine seq <| region ?_
 refine sbox hS rfl rfl ?_; clear hS; intro b2 w hS
 refine sv (yAsg rfl) <| nil <| cwQ <| seq <| region <| sv (fa29_5 rfl) <| sv (yLdB rfl isAgg26 (hS.at _) rfl) <| sv (yMove rfl) <| sv (yIxQ rfl hax rfl runUnderlying26 sizeOf57) ?_
 refine sv (yLdA rfl isAgg57 sizeOf57 (hcx.ext hS.ext) rfl) ?_
 refine salloc hS zeroValue57 rfl ?_; clear hS; intro b5 w hS
 refine sst hS rfl rfl sizeOf57 rfl rfl rfl rfl ?_; clear hS; intro w hS
 refine nil <| cwQ <| seq <| seq <| region <| sv (fa57_0 rfl) <| sv (yLdB rfl isAgg9 (hS.at _) rfl) ?_
 refine scV hS call117 (.cons rfl .nil) (c_rName hnm) ?_; clear hS; intro w hS
 refine sv (yNot rfl) <| nil <| cwQ ?_
 refine cond rfl (fun c15 => ?_) (fun c15 => ?_)
 ·
  refine seq <| region <| sv (yAsg rfl) <| nil <| cwQ ?_
  refine wp_ret (thenR ?_)
  exact retV (res1 rfl (eqI (by unfold cE; rw [if_pos c15]))) hS.ext
 ·
  refine skip <| cwQ <| seq <| seq <| region <| sv (yAsg rfl) <| nil <| cwQ <| block ?_
  refine loop (fun f w zz => ∃ (k : Nat), f 1 = .int .i64 (i : Int) ∧ f 2 = ptQ b2 ∧ f 5 = ptQ b5 ∧ f 6 = .int .i64 (k : Int) ∧ StX [] w0 w [blk b5 (ctrC (ctr t.ctrs i)) 57, blk b2 (scQ t cv ag ak ae cg ck ce) 29] ∧ (k ≤ i) ∧ (((t.ctrs.take k).any fun x => decide (x.name = (ctr t.ctrs i).name)) = false) ∧ zz = i - k) _ ⟨_, rfl, 0, rfl, rfl, rfl, rfl, hS, (Nat.zero_le _), (rfl), rfl⟩ ?_
  clear hS
  rintro f w _ ⟨k, h1, h2, h5, h6, hS, hk, hM, rfl⟩
  refine seq <| seq <| region <| sv (yMove h6) <| sv (yMove h1) <| sv (yLss rfl rfl) <| nil <| cwQ ?_
  refine cond rfl (fun c18 => ?_) (fun c18 => ?_)
  ·
   simp only [BS, ne_eq] at c18
   have hkl : k < i := by omega
   obtain ⟨by2, oy, cy, hay, -, hcy, hRy, -⟩ := sl_at hC (ctr_get (l := t.ctrs) (i := k) (by omega))
   obtain ⟨rfl, -⟩ := hRy
   refine skip <| cwQ <| seq <| block <| seq <| region_draw mixed (by kernel_rfl) hS <| qv (fun w hS => (fa29_5 h2)) <| qv (fun w hS => (yLdB rfl isAgg26 (hS.at _) rfl)) <| qv (fun w hS => (yMove h6)) ?_
   refine qv (fun w hS => (yIxQ rfl hay rfl runUnderlying26 sizeOf57)) <| qv (fun w hS => (fa57_0 rfl)) <| qv (fun w hS => (yLd rfl isAgg9 ((hcy.ext hS.ext).at (j := 0) rfl))) <| qv (fun w hS => (fa57_0 h5)) <| qv (fun w hS => (yLdB rfl isAgg9 (hS.at _) rfl)) <| qv (fun w hS => (ySEq rfl rfl)) ?_
   clear hS; refine qnil (fun w hS => ?_)
   refine cwQ ?_
   refine cond rfl (fun c29 => ?_) (fun c29 => ?_)
   ·
    simp only [BS, ne_eq] at c29
    refine seq <| region <| sv (yAsg rfl) <| nil <| cwQ ?_
    refine wp_ret (blockR (thenR (thenR (blockR (thenR ?_)))))
    exact retV (res1 rfl (eqI (by unfold cE; rw [if_neg (by rw [c15]; decide), if_pos (any_take_yes (ctr_get (show k < t.ctrs.length by omega)) hkl (decide_eq_true c29))]))) hS.ext
   ·
    simp only [BS, ne_eq] at c29
    refine skip <| cwQ <| region <| sv (yMove h6) <| sv (yAdd rfl rfl ⟨by omega, by omega⟩) <| sv (yAsg rfl) <| nil ?_
    exact ⟨_, _, rfl, ⟨k + 1, h1, h2, h5, rfl, hS, (by omega), (any_take_no (ctr_get (by omega)) hM (decide_eq_false c29)), rfl⟩, by omega⟩
  ·
   simp only [BS, ne_eq] at c18
   have hki : k = i := by omega
   rw [hki] at hM
   refine exit <| cwQ <| seq <| seq <| region <| sv (fa57_1 h5) <| sv (yLdB rfl isAgg3 (hS.at _) rfl) ?_
   refine scV hS call58 (.cons rfl (.cons rfl (.cons rfl .nil))) c_inS ?_; clear hS; intro w hS
   refine sv (yNot rfl) <| sv (yMove rfl) ?_
   refine sg rfl rfl rfl (fun g => (fa57_2 h5)) (fun v35 g35 => ?_)
   refine sg rfl rfl rfl (fun g => (yLdB (g35.1 g) isAgg3 (hS.at _) rfl)) (fun v36 g36 => ?_)
   refine sgc hS rfl rfl rfl call58 (fun g => (.cons (g36.1 g) (.cons rfl (.cons rfl .nil)))) (fun g => c_inS) ?_; clear hS; intro v37 w hS g37
   refine sg rfl rfl rfl (fun g => (yNot (g37.1 g))) (fun v38 g38 => ?_)
   refine sv (yOr rfl rfl (fun hB => (g38.1 hB))) <| sv (yMove rfl) ?_
   refine sg rfl rfl rfl (fun g => (fa57_3 h5)) (fun v41 g41 => ?_)
   refine sg rfl rfl rfl (fun g => (yLdB (g41.1 g) isAgg3 (hS.at _) rfl)) (fun v42 g42 => ?_)
   refine sgc hS rfl rfl rfl call58 (fun g => (.cons (g42.1 g) (.cons rfl (.cons rfl .nil)))) (fun g => c_inS) ?_; clear hS; intro v43 w hS g43
   refine sg rfl rfl rfl (fun g => (yNot (g43.1 g))) (fun v44 g44 => ?_)
   refine sv (yOr rfl rfl (fun hB => (g44.1 hB))) <| nil <| cwQ ?_
   refine cond rfl (fun c45 => ?_) (fun c45 => ?_)
   ·
    rw [inB_not, inB_not, inB_not] at c45
    refine seq <| region <| sv (yAsg rfl) <| nil <| cwQ ?_
    refine wp_ret (thenR ?_)
    exact retV (res1 rfl (eqI (by unfold cE; rw [if_neg (by rw [c15]; decide), if_neg (by rw [hM]; decide), if_pos (show ctrB (ctr t.ctrs i) = true from c45)]))) hS.ext
   ·
    rw [inB_not, inB_not, inB_not] at c45
    refine skip <| cwQ <| seq <| region <| sv (yAsg rfl) <| nil <| cwQ <| wp_ret ?_
    exact retV (res1 rfl (eqI (by unfold cE; rw [if_neg (by rw [c15]; decide), if_neg (by rw [hM]; decide), if_neg (by rw [show ctrB (ctr t.ctrs i) = false from c45]; decide)]))) hS.ext
theorem c_rtickS {a : Int} {w0 : World} : CV Tryz.prog 80 #[.int .i64 a] w0 (.bool (inB a 0 200000)) := by
 refine enter func80 rfl ntmps80 rfl ?_
 have hS := St.start w0
 refine seq <| region <| sv (yAsg rfl) <| nil <| cwQ <| seq <| region <| sv (yMove rfl) ?_
 refine scV hS call58 (.cons rfl (.cons rfl (.cons rfl .nil))) c_inS ?_; clear hS; intro w hS
 refine sv (yAsg rfl) <| nil <| cwQ <| wp_ret ?_
 exact retV (res1 rfl rfl) hS.ext
set_option maxHeartbeats 2000000 in
theorem c_rforeS {t : Sgt} {cs : List Value} {i : Nat} {w0 : World} (h : RSgt w0 cs t) (hi : i < t.fcs.length) : CV Tryz.prog 62 #[.agg cs.toArray, .int .i64 (i : Int)] w0 (.int .i64 (fE t.ctrs.length t.fcs i)) := by
 obtain ⟨cv, gv, tv, fv, rfl, hT, hG, hw64, hf64, hk64, hC, hF, hl64, hm64, hr64, hq64⟩ := id h
 obtain ⟨ag, cg, rfl, hgcap, hgmx, hgel⟩ := id hG
 obtain ⟨ak, ck, rfl, hkcap, hkmx, hkel⟩ := id hC
 obtain ⟨ae, ce, rfl, hecap, hemx, heel⟩ := id hF
 obtain ⟨bx, ox, cx, hax, hlx, hcx, hRx, -⟩ := sl_at hF (fct_get hi)
 obtain ⟨mv, rfl, hf1, hf2, hf3, hM⟩ := id hRx
 obtain ⟨am, cm, rfl, hmcap, hmmx, hmel⟩ := id hM
 refine enter func62 rfl ntmps62 rfl ?_
 have hS := St.start w0
 refine seq <| region ?_
 refine sbox hS rfl rfl ?_; clear hS; intro b2 w hS
 refine sv (yAsg rfl) <| nil <| cwQ <| seq <| region <| sv (fa29_6 rfl) <| sv (yLdB rfl isAgg27 (hS.at _) rfl) <| sv (yMove rfl) <| sv (yIxQ rfl hax rfl runUnderlying27 sizeOf61) ?_
 refine sv (yLdA rfl isAgg61 sizeOf61 (hcx.ext hS.ext) rfl) ?_
 refine salloc hS zeroValue61 rfl ?_; clear hS; intro b5 w hS
 refine sst hS rfl rfl sizeOf61 rfl rfl rfl rfl ?_; clear hS; intro w hS
 refine nil <| cwQ <| seq <| seq <| region <| sv (fa61_0 rfl) <| sv (yLdB rfl isAgg3 (hS.at _) rfl) <| sv (fa29_5 rfl) <| sv (yLdB rfl isAgg26 (hS.at _) rfl) ?_
 refine sv (yLen rfl underlying26) <| sv (ySub rfl rfl ⟨by omega, by omega⟩) ?_
 refine scV hS call58 (.cons rfl (.cons rfl (.cons rfl .nil))) c_inS ?_; clear hS; intro w hS
 refine sv (yNot rfl) <| nil <| cwQ ?_
 refine cond rfl (fun c23 => ?_) (fun c23 => ?_)
 ·
  rw [inB_not] at c23
  refine seq <| region <| sv (yAsg rfl) <| nil <| cwQ ?_
  refine wp_ret (thenR ?_)
  exact retV (res1 rfl (eqI (by unfold fE; rw [if_pos c23]))) hS.ext
 ·
  rw [inB_not] at c23
  refine skip <| cwQ <| seq <| seq <| region <| sv (fa61_1 rfl) <| sv (yLdB rfl isAgg3 (hS.at _) rfl) ?_
  refine scV hS call80 (.cons rfl .nil) c_rtickS ?_; clear hS; intro w hS
  refine sv (yNot rfl) <| sv (yMove rfl) ?_
  refine sg rfl rfl rfl (fun g => (fa61_2 rfl)) (fun v29 g29 => ?_)
  refine sg rfl rfl rfl (fun g => (yLdB (g29.1 g) isAgg3 (hS.at _) rfl)) (fun v30 g30 => ?_)
  refine sgc hS rfl rfl rfl call80 (fun g => (.cons (g30.1 g) .nil)) (fun g => c_rtickS) ?_; clear hS; intro v31 w hS g31
  refine sg rfl rfl rfl (fun g => (yNot (g31.1 g))) (fun v32 g32 => ?_)
  refine sv (yOr rfl rfl (fun hB => (g32.1 hB))) <| nil <| cwQ ?_
  refine cond rfl (fun c33 => ?_) (fun c33 => ?_)
  ·
   rw [inB_not, inB_not] at c33
   refine seq <| region <| sv (yAsg rfl) <| nil <| cwQ ?_
   refine wp_ret (thenR ?_)
   exact retV (res1 rfl (eqI (by unfold fE; rw [if_neg (by rw [c23]; decide), if_pos c33]))) hS.ext
  ·
   rw [inB_not, inB_not] at c33
   refine skip <| cwQ <| seq <| seq <| region <| sv (fa61_3 rfl) <| sv (yLdB rfl isAgg59 (hS.at _) rfl) <| sv (yLen rfl underlying59) ?_
   refine scV hS call58 (.cons rfl (.cons rfl (.cons rfl .nil))) c_inS ?_; clear hS; intro w hS
   refine sv (yNot rfl) <| nil <| cwQ ?_
   refine cond rfl (fun c38 => ?_) (fun c38 => ?_)
   ·
    rw [inB_not] at c38
    refine seq <| region <| sv (yAsg rfl) <| nil <| cwQ ?_
    refine wp_ret (thenR ?_)
    exact retV (res1 rfl (eqI (by unfold fE; rw [if_neg (by rw [c23]; decide), if_neg (by rw [c33]; decide), if_pos (longM_in c38)]))) hS.ext
   ·
    rw [inB_not] at c38
    refine skip <| cwQ <| seq <| seq <| region <| sv (yAsg rfl) <| nil <| cwQ <| block ?_
    refine loop (fun f w zz => ∃ (k : Nat), f 1 = .int .i64 (i : Int) ∧ f 2 = ptQ b2 ∧ f 5 = ptQ b5 ∧ f 6 = .int .i64 (k : Int) ∧ StX [] w0 w [blk b5 [.int .i64 (fct t.fcs i).centre, .int .i64 (fct t.fcs i).issued, .int .i64 (fct t.fcs i).frm, .slice am (fct t.fcs i).members.length cm] 61, blk b2 (scQ t cv ag ak ae cg ck ce) 29] ∧ (k ≤ (fct t.fcs i).members.length) ∧ ((((fct t.fcs i).members.take k).any fun l => outB l.length 1 200) = false) ∧ zz = (fct t.fcs i).members.length - k) _ ⟨_, rfl, 0, rfl, rfl, rfl, rfl, hS, (Nat.zero_le _), (rfl), rfl⟩ ?_
    clear hS
    rintro f w _ ⟨k, h1, h2, h5, h6, hS, hk, hA, rfl⟩
    refine seq <| seq <| region <| sv (yMove h6) <| sv (fa61_3 h5) <| sv (yLdB rfl isAgg59 (hS.at _) rfl) <| sv (yLen rfl underlying59) <| sv (yLss rfl rfl) <| nil ?_
    refine cwQ ?_
    refine cond rfl (fun c43 => ?_) (fun c43 => ?_)
    ·
     simp only [BS, ne_eq] at c43
     have hkl : k < (fct t.fcs i).members.length := by omega
     obtain ⟨bp, op, csp, hap, -, hcp, hRp, -⟩ := sl_at hM (show (fct t.fcs i).members[k]? = some (mem (fct t.fcs i) k) by simp [mem, show k < (fct t.fcs i).members.length by omega])
     obtain ⟨vp, rfl, hvp⟩ := hRp
     obtain ⟨ap, np, rfl, hcapp, hmxp, -⟩ := id hvp
     refine skip <| cwQ <| seq <| block <| seq <| region <| sv (fa61_3 h5) <| sv (yLdB rfl isAgg59 (hS.at _) rfl) <| sv (yMove h6) ?_
     refine sv (yIxQ rfl hap rfl runUnderlying59 sizeOf39) <| sv (yLd rfl isAgg39 (hcp.ext hS.ext).one) <| sv (yLen rfl underlying39) ?_
     refine scV hS call58 (.cons rfl (.cons rfl (.cons rfl .nil))) c_inS ?_; clear hS; intro w hS
     refine sv (yNot rfl) <| nil <| cwQ ?_
     refine cond rfl (fun c53 => ?_) (fun c53 => ?_)
     ·
      rw [inB_not] at c53
      refine seq <| region <| sv (yAsg rfl) <| nil <| cwQ ?_
      refine wp_ret (blockR (thenR (thenR (blockR (thenR ?_)))))
      exact retV (res1 rfl (eqI (by unfold fE; rw [if_neg (by rw [c23]; decide), if_neg (by rw [c33]; decide), if_pos (longM_one (any_yes (mem_at (show k < (fct t.fcs i).members.length by omega)) c53))]))) hS.ext
     ·
      rw [inB_not] at c53
      refine skip <| cwQ <| region <| sv (yMove h6) <| sv (yAdd rfl rfl ⟨by omega, by omega⟩) <| sv (yAsg rfl) <| nil ?_
      exact ⟨_, _, rfl, ⟨k + 1, h1, h2, h5, rfl, hS, (by omega), (any_take_no (mem_at (show k < (fct t.fcs i).members.length by omega)) hA c53), rfl⟩, by omega⟩
    ·
     simp only [BS, ne_eq] at c43
     have hkk : k = (fct t.fcs i).members.length := by omega
     rw [hkk, List.take_length] at hA
     refine exit <| cwQ <| seq <| seq ?_
     have z1 := hA
     clear hA
     refine cutK (fun f => f 1 = .int .i64 (i : Int) ∧ f 2 = ptQ b2 ∧ f 5 = ptQ b5 ∧ True) ⟨h1, h2, h5, trivial⟩ ?_
     rintro f ⟨h1, h2, h5, -⟩
     refine region <| sv (yAsg rfl) <| nil <| cwQ <| block <| loop (fun f w zz => ∃ (k : Nat), f 1 = .int .i64 (i : Int) ∧ f 2 = ptQ b2 ∧ f 5 = ptQ b5 ∧ f 7 = .int .i64 (k : Int) ∧ StX [] w0 w [blk b5 [.int .i64 (fct t.fcs i).centre, .int .i64 (fct t.fcs i).issued, .int .i64 (fct t.fcs i).frm, .slice am (fct t.fcs i).members.length cm] 61, blk b2 (scQ t cv ag ak ae cg ck ce) 29] ∧ (k ≤ (fct t.fcs i).members.length) ∧ ((((fct t.fcs i).members.take k).any fun l => decide ((l.length : Int) ≠ ((fct t.fcs i).members.getD 0 []).length)) = false) ∧ zz = (fct t.fcs i).members.length - k) _ ⟨_, rfl, 0, h1, h2, h5, rfl, hS, (Nat.zero_le _), (rfl), rfl⟩ ?_
     clear hS
     rintro f w _ ⟨k, h1, h2, h5, h7, hS, hk, hA, rfl⟩
     refine seq <| seq <| region <| sv (yMove h7) <| sv (fa61_3 h5) <| sv (yLdB rfl isAgg59 (hS.at _) rfl) <| sv (yLen rfl underlying59) <| sv (yLss rfl rfl) <| nil ?_
     refine cwQ ?_
     refine cond rfl (fun c58 => ?_) (fun c58 => ?_)
     ·
      simp only [BS, ne_eq] at c58
      have hkl : k < (fct t.fcs i).members.length := by omega
      obtain ⟨bp, op, csp, hap, -, hcp, hRp, -⟩ := sl_at hM (show (fct t.fcs i).members[k]? = some (mem (fct t.fcs i) k) by simp [mem, show k < (fct t.fcs i).members.length by omega])
      obtain ⟨vp, rfl, hvp⟩ := hRp
      obtain ⟨ap, np, rfl, hcapp, hmxp, -⟩ := id hvp
      obtain ⟨bz, oz, csz, haz, -, hcz, hRz, -⟩ := sl_at hM (show (fct t.fcs i).members[0]? = some (mem (fct t.fcs i) 0) by simp [mem, show 0 < (fct t.fcs i).members.length by omega])
      obtain ⟨vz, rfl, hvz⟩ := hRz
      obtain ⟨az, nz, rfl, hcapz, hmxz, -⟩ := id hvz
      refine skip <| cwQ <| seq <| block <| seq <| region_draw mixed (by kernel_rfl) hS <| qv (fun w hS => (fa61_3 h5)) <| qv (fun w hS => (yLdB rfl isAgg59 (hS.at _) rfl)) <| qv (fun w hS => (yMove h7)) ?_
      refine qv (fun w hS => (yIxQ rfl hap rfl runUnderlying59 sizeOf39)) <| qv (fun w hS => (yLd rfl isAgg39 (hcp.ext hS.ext).one)) <| qv (fun w hS => (yLen rfl underlying39)) <| qv (fun w hS => (fa61_3 h5)) <| qv (fun w hS => (yLdB rfl isAgg59 (hS.at _) rfl)) <| qv (fun w hS => (yIxQ (m := 0) rfl haz rfl runUnderlying59 sizeOf39)) <| qv (fun w hS => (yLd rfl isAgg39 (hcz.ext hS.ext).one)) <| qv (fun w hS => (yLen rfl underlying39)) <| qv (fun w hS => (yNeq rfl rfl)) ?_
      clear hS; refine qnil (fun w hS => ?_)
      refine cwQ ?_
      refine cond rfl (fun c72 => ?_) (fun c72 => ?_)
      ·
       simp only [BS, ne_eq, ne_eq, Decidable.not_not] at c72
       refine seq <| region <| sv (yAsg rfl) <| nil <| cwQ ?_
       refine wp_ret (blockR (thenR (thenR (blockR (thenR ?_)))))
       exact retV (res1 rfl (eqI (by unfold fE; rw [if_neg (by rw [c23]; decide), if_neg (by rw [c33]; decide), if_neg (by rw [longM_no c38 z1]; decide), if_pos (show sameM (fct t.fcs i) = true from any_yes (mem_at (show k < (fct t.fcs i).members.length by omega)) (decide_eq_true c72))]))) hS.ext
      ·
       simp only [BS, ne_eq, ne_eq, Decidable.not_not] at c72
       refine skip <| cwQ <| region <| sv (yMove h7) <| sv (yAdd rfl rfl ⟨by omega, by omega⟩) <| sv (yAsg rfl) <| nil ?_
       exact ⟨_, _, rfl, ⟨k + 1, h1, h2, h5, rfl, hS, (by omega), (any_take_no (mem_at (show k < (fct t.fcs i).members.length by omega)) hA (decide_eq_false (fun hh => hh c72))), rfl⟩, by omega⟩
     ·
      simp only [BS, ne_eq] at c58
      have hkk : k = (fct t.fcs i).members.length := by omega
      rw [hkk, List.take_length] at hA
      refine exit <| cwQ <| seq <| seq ?_
      have z2 := hA
      clear hA
      refine cutK (fun f => f 1 = .int .i64 (i : Int) ∧ f 2 = ptQ b2 ∧ f 5 = ptQ b5 ∧ True) ⟨h1, h2, h5, trivial⟩ ?_
      rintro f ⟨h1, h2, h5, -⟩
      refine region <| sv (yAsg rfl) <| nil <| cwQ <| block <| loop (fun f w zz => ∃ (k : Nat), f 1 = .int .i64 (i : Int) ∧ f 2 = ptQ b2 ∧ f 5 = ptQ b5 ∧ f 8 = .int .i64 (k : Int) ∧ StX [] w0 w [blk b5 [.int .i64 (fct t.fcs i).centre, .int .i64 (fct t.fcs i).issued, .int .i64 (fct t.fcs i).frm, .slice am (fct t.fcs i).members.length cm] 61, blk b2 (scQ t cv ag ak ae cg ck ce) 29] ∧ (k ≤ (fct t.fcs i).members.length) ∧ ((((fct t.fcs i).members.take k).flatten.any fun v => outB v (-10000) 10000) = false) ∧ zz = (fct t.fcs i).members.length - k) _ ⟨_, rfl, 0, h1, h2, h5, rfl, hS, (Nat.zero_le _), (rfl), rfl⟩ ?_
      clear hS
      rintro f w _ ⟨k, h1, h2, h5, h8, hS, hk, hA, rfl⟩
      refine seq <| seq <| region <| sv (yMove h8) <| sv (fa61_3 h5) <| sv (yLdB rfl isAgg59 (hS.at _) rfl) <| sv (yLen rfl underlying59) <| sv (yLss rfl rfl) <| nil ?_
      refine cwQ ?_
      refine cond rfl (fun c77 => ?_) (fun c77 => ?_)
      ·
       simp only [BS, ne_eq] at c77
       have hkl : k < (fct t.fcs i).members.length := by omega
       obtain ⟨bp, op, csp, hap, -, hcp, hRp, -⟩ := sl_at hM (show (fct t.fcs i).members[k]? = some (mem (fct t.fcs i) k) by simp [mem, show k < (fct t.fcs i).members.length by omega])
       obtain ⟨vp, rfl, hvp⟩ := hRp
       obtain ⟨ap, np, rfl, hcapp, hmxp, -⟩ := id hvp
       refine skip <| cwQ <| seq <| block <| seq <| region <| sv (yAsg rfl) <| nil <| cwQ ?_
       refine block <| loop (fun f w zz => ∃ (j : Nat), f 1 = .int .i64 (i : Int) ∧ f 2 = ptQ b2 ∧ f 5 = ptQ b5 ∧ f 8 = .int .i64 (k : Int) ∧ f 9 = .int .i64 (j : Int) ∧ StX [] w0 w [blk b5 [.int .i64 (fct t.fcs i).centre, .int .i64 (fct t.fcs i).issued, .int .i64 (fct t.fcs i).frm, .slice am (fct t.fcs i).members.length cm] 61, blk b2 (scQ t cv ag ak ae cg ck ce) 29] ∧ (j ≤ (mem (fct t.fcs i) k).length) ∧ ((((mem (fct t.fcs i) k).take j).any fun v => outB v (-10000) 10000) = false) ∧ zz = (mem (fct t.fcs i) k).length - j) _ ⟨_, rfl, 0, h1, h2, h5, h8, rfl, hS, (Nat.zero_le _), (rfl), rfl⟩ ?_
       clear hS
       rintro f w _ ⟨j, h1, h2, h5, h8, h9, hS, hj, hB, rfl⟩
       refine seq <| seq <| region <| sv (yMove h9) <| sv (fa61_3 h5) <| sv (yLdB rfl isAgg59 (hS.at _) rfl) <| sv (yMove h8) <| sv (yIxQ rfl hap rfl runUnderlying59 sizeOf39) <| sv (yLd rfl isAgg39 (hcp.ext hS.ext).one) ?_
       refine sv (yLen rfl underlying39) <| sv (yLss rfl rfl) <| nil <| cwQ ?_
       refine cond rfl (fun c87 => ?_) (fun c87 => ?_)
       ·
        simp only [BS, ne_eq] at c87
        have hjl : j < (mem (fct t.fcs i) k).length := by omega
        have hje : (mem (fct t.fcs i) k)[j]? = some ((mem (fct t.fcs i) k).getD j 0) := by simp [List.getD, hjl]
        obtain ⟨bq, oq, cq, haq, -, hcq, hRq, -⟩ := sl_at hvp hje
        obtain ⟨rfl, -⟩ := hRq
        refine skip <| cwQ <| seq <| block <| seq <| region <| sv (fa61_3 h5) <| sv (yLdB rfl isAgg59 (hS.at _) rfl) <| sv (yMove h8) ?_
        refine sv (yIxQ rfl hap rfl runUnderlying59 sizeOf39) <| sv (yLd rfl isAgg39 (hcp.ext hS.ext).one) <| sv (yMove h9) <| sv (yIxQ rfl haq rfl runUnderlying39 sizeOf3) <| sv (yLd rfl isAgg3 (hcq.ext hS.ext).one) ?_
        refine scV hS call58 (.cons rfl (.cons rfl (.cons rfl .nil))) c_inS ?_; clear hS; intro w hS
        refine sv (yNot rfl) <| nil <| cwQ ?_
        refine cond rfl (fun c99 => ?_) (fun c99 => ?_)
        ·
         rw [inB_not] at c99
         refine seq <| region <| sv (yAsg rfl) <| nil <| cwQ ?_
         refine wp_ret (blockR (thenR (thenR (blockR (blockR (thenR (thenR (blockR (thenR ?_)))))))))
         exact retV (res1 rfl (eqI (by unfold fE; rw [if_neg (by rw [c23]; decide), if_neg (by rw [c33]; decide), if_neg (by rw [longM_no c38 z1]; decide), if_neg (by rw [show sameM (fct t.fcs i) = false from z2]; decide), if_pos (show farM (fct t.fcs i) = true from flat_yes (mem_at (show k < (fct t.fcs i).members.length by omega)) hje c99)]))) hS.ext
        ·
         rw [inB_not] at c99
         refine skip <| cwQ <| region <| sv (yMove h9) <| sv (yAdd rfl rfl ⟨by omega, by omega⟩) <| sv (yAsg rfl) <| nil ?_
         exact ⟨_, _, rfl, ⟨j + 1, h1, h2, h5, h8, rfl, hS, (by omega), (any_take_no hje hB c99), rfl⟩, by omega⟩
       ·
        simp only [BS, ne_eq] at c87
        have hjj : j = (mem (fct t.fcs i) k).length := by omega
        rw [hjj, List.take_length] at hB
        refine exit <| cwQ <| region <| sv (yMove h8) <| sv (yAdd rfl rfl ⟨by omega, by omega⟩) <| sv (yAsg rfl) <| nil ?_
        exact ⟨_, _, rfl, ⟨k + 1, h1, h2, h5, rfl, hS, (by omega), (flat_no (mem_at (show k < (fct t.fcs i).members.length by omega)) hA hB), rfl⟩, by omega⟩
      ·
       simp only [BS, ne_eq] at c77
       have hkk : k = (fct t.fcs i).members.length := by omega
       rw [hkk, List.take_length] at hA
       refine exit <| cwQ <| seq <| seq ?_
       have z3 := hA
       clear hA
       refine cutK (fun f => f 1 = .int .i64 (i : Int) ∧ f 2 = ptQ b2 ∧ f 5 = ptQ b5 ∧ True) ⟨h1, h2, h5, trivial⟩ ?_
       rintro f ⟨h1, h2, h5, -⟩
       refine region <| sv (yAsg rfl) <| nil <| cwQ <| block <| loop (fun f w zz => ∃ (k : Nat), f 1 = .int .i64 (i : Int) ∧ f 2 = ptQ b2 ∧ f 5 = ptQ b5 ∧ f 10 = .int .i64 (k : Int) ∧ StX [] w0 w [blk b5 [.int .i64 (fct t.fcs i).centre, .int .i64 (fct t.fcs i).issued, .int .i64 (fct t.fcs i).frm, .slice am (fct t.fcs i).members.length cm] 61, blk b2 (scQ t cv ag ak ae cg ck ce) 29] ∧ (k ≤ i) ∧ (((t.fcs.take k).any fun x => decide (x.centre = (fct t.fcs i).centre) && decide (x.issued = (fct t.fcs i).issued)) = false) ∧ zz = i - k) _ ⟨_, rfl, 0, h1, h2, h5, rfl, hS, (Nat.zero_le _), (rfl), rfl⟩ ?_
       clear hS
       rintro f w _ ⟨k, h1, h2, h5, h10, hS, hk, hA, rfl⟩
       refine seq <| seq <| region <| sv (yMove h10) <| sv (yMove h1) <| sv (yLss rfl rfl) <| nil <| cwQ ?_
       refine cond rfl (fun c102 => ?_) (fun c102 => ?_)
       ·
        simp only [BS, ne_eq] at c102
        have hkl : k < i := by omega
        obtain ⟨bq, oq, cq, haq, -, hcq, hRq, -⟩ := sl_at hF (fct_get (l := t.fcs) (i := k) (by omega))
        obtain ⟨mvq, rfl, -⟩ := hRq
        refine skip <| cwQ <| seq <| block <| seq <| region_draw mixed (by kernel_rfl) hS <| qv (fun w hS => (fa29_6 h2)) <| qv (fun w hS => (yLdB rfl isAgg27 (hS.at _) rfl)) <| qv (fun w hS => (yMove h10)) ?_
        refine qv (fun w hS => (yIxQ rfl haq rfl runUnderlying27 sizeOf61)) <| qv (fun w hS => (fa61_0 rfl)) <| qv (fun w hS => (yLd rfl isAgg3 ((hcq.ext hS.ext).at (j := 0) rfl))) <| qv (fun w hS => (fa61_0 h5)) <| qv (fun w hS => (yLdB rfl isAgg3 (hS.at _) rfl)) <| qv (fun w hS => (yEql rfl rfl)) <| qv (fun w hS => (yMove rfl)) ?_
        refine qg rfl rfl rfl (fun g w hS => (fa29_6 h2)) (fun v115 g115 => ?_)
        refine qg rfl rfl rfl (fun g w hS => (yLdB (g115.1 g) isAgg27 (hS.at _) rfl)) (fun v116 g116 => ?_)
        refine qg rfl rfl rfl (fun g w hS => (yMove h10)) (fun v117 g117 => ?_)
        refine qg rfl rfl rfl (fun g w hS => (yIxQ (g116.1 g) haq (g117.1 g) runUnderlying27 sizeOf61)) (fun v118 g118 => ?_)
        refine qg rfl rfl rfl (fun g w hS => (fa61_1 (g118.1 g))) (fun v119 g119 => ?_)
        refine qg rfl rfl rfl (fun g w hS => (yLd (g119.1 g) isAgg3 ((hcq.ext hS.ext).at (j := 1) rfl))) (fun v120 g120 => ?_)
        refine qg rfl rfl rfl (fun g w hS => (fa61_1 h5)) (fun v121 g121 => ?_)
        refine qg rfl rfl rfl (fun g w hS => (yLdB (g121.1 g) isAgg3 (hS.at _) rfl)) (fun v122 g122 => ?_)
        refine qg rfl rfl rfl (fun g w hS => (yEql (g120.1 g) (g122.1 g))) (fun v123 g123 => ?_)
        refine qv (fun w hS => (yAnd rfl (fun hB => (g123.1 hB)) rfl)) ?_
        clear hS; refine qnil (fun w hS => ?_)
        refine cwQ ?_
        refine cond rfl (fun c124 => ?_) (fun c124 => ?_)
        ·
         refine seq <| region <| sv (yAsg rfl) <| nil <| cwQ ?_
         refine wp_ret (blockR (thenR (thenR (blockR (thenR ?_)))))
         exact retV (res1 rfl (eqI (by unfold fE; rw [if_neg (by rw [c23]; decide), if_neg (by rw [c33]; decide), if_neg (by rw [longM_no c38 z1]; decide), if_neg (by rw [show sameM (fct t.fcs i) = false from z2]; decide), if_neg (by rw [show farM (fct t.fcs i) = false from z3]; decide), if_pos (show twiceF t.fcs i = true from any_take_yes (fct_get (show k < t.fcs.length by omega)) hkl c124)]))) hS.ext
        ·
         refine skip <| cwQ <| region <| sv (yMove h10) <| sv (yAdd rfl rfl ⟨by omega, by omega⟩) <| sv (yAsg rfl) <| nil ?_
         exact ⟨_, _, rfl, ⟨k + 1, h1, h2, h5, rfl, hS, (by omega), (any_take_no (fct_get (by omega)) hA c124), rfl⟩, by omega⟩
       ·
        simp only [BS, ne_eq] at c102
        have hki : k = i := by omega
        rw [hki] at hA
        refine exit <| cwQ <| seq <| region <| sv (yAsg rfl) <| nil <| cwQ <| wp_ret ?_
        exact retV (res1 rfl (eqI (by unfold fE; rw [if_neg (by rw [c23]; decide), if_neg (by rw [c33]; decide), if_neg (by rw [longM_no c38 z1]; decide), if_neg (by rw [show sameM (fct t.fcs i) = false from z2]; decide), if_neg (by rw [show farM (fct t.fcs i) = false from z3]; decide), if_neg (by rw [show twiceF t.fcs i = false from hA]; decide)]))) hS.ext
end Go.Proofs.YtgidbailiababaaGreatDoor

