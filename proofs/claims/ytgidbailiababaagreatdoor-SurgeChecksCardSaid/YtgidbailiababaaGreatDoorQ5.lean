/- Merged texts, part 5. -/
import Derived.Test.YtgidbailiababaaGreatDoorQ4
import Derived.ChangeKeysEq
set_option linter.all false
/- part Sw8 -/
namespace Go.Proofs.YtgidbailiababaaGreatDoor
open Go Bx
set_option maxHeartbeats 4000000 in
/-- barrage/surge.with -/
theorem c_with {t : Sgt} {cv : Value} {ag ak ae : Option Addr} {cg ck ce : Nat} {now : Int} {w0 : World} (h : RSgt w0 [.int .i64 t.table.mean, cv, .slice ag t.gauges.length cg, .int .i64 t.wrong, .int .i64 t.frm, .int .i64 t.ticks, .slice ak t.ctrs.length ck, .slice ae t.fcs.length ce, .int .i64 t.least, .int .i64 t.most, .int .i64 t.rate, .int .i64 t.quorum] t) (hI : I64 now) : CE Tryz.prog 63 #[.agg [.int .i64 t.table.mean, cv, .slice ag t.gauges.length cg, .int .i64 t.wrong, .int .i64 t.frm, .int .i64 t.ticks, .slice ak t.ctrs.length ck, .slice ae t.fcs.length ce, .int .i64 t.least, .int .i64 t.most, .int .i64 t.rate, .int .i64 t.quorum].toArray, .int .i64 now] w0 (fun u w' => (askE t now ≠ 0 ∧ u = .tuple #[.pointer none, .int .i64 (askE t now)] ∧ Ext w0 w') ∨ (askE t now = 0 ∧ ∃ bk aw cw ax cx, u = .tuple #[.pointer (some ⟨bk, 0, none⟩), .int .i64 0] ∧ St w0 w' [blk bk [.int .i64 t.table.mean, cv, .slice ag t.gauges.length cg, .int .i64 t.wrong, .int .i64 t.frm, .int .i64 t.ticks, .slice ak t.ctrs.length ck, .slice ae t.fcs.length ce, .int .i64 t.least, .int .i64 t.most, .int .i64 t.rate, .int .i64 t.quorum, .int .i64 now, .slice aw t.ticks.toNat cw, .slice ax t.ctrs.length cx, .slice none 0 0] 123, rowI (.slice aw t.ticks.toNat cw) 74 2 t.ticks.toNat ((tidesS t).flatMap spanC), rowI (.slice ax t.ctrs.length cx) 3 1 t.ctrs.length ((curS t now).flatMap Bx.encI)])) := by
 obtain ⟨hT, hG, hw64, hf64, hk64, hC, hF, hl64, hm64, hr64, hq64⟩ := RSgt.parts h
 refine enter Tryz.func63 rfl Tryz.ntmps63 rfl ?_
 have hS := St.start w0
 refine seq ?_
 refine region ?_
 refine sbox hS rfl rfl ?_; clear hS; intro b2 w hS
 refine sv (yAsg rfl) ?_
 refine sv (yAsg rfl) ?_
 refine nil ?_
 show Code.wp _ _ _ _ _
 refine seq ?_
 refine region ?_
 refine sv (yLdBA rfl Tryz.isAgg29 Tryz.sizeOf29 (hS.at _) rfl rfl) ?_
 refine scall Tryz.call17 (.cons rfl .nil) (c_CheckS (h.ext hS.ext)) ?_
 rintro _ w ⟨rfl, hE⟩; replace hS := hS.step hE; clear hE
 refine sv (yMove rfl) ?_
 refine sv (yExt rfl rfl) ?_
 refine sv (yExt rfl rfl) ?_
 refine sv (yExt rfl rfl) ?_
 refine sv (yAsg rfl) ?_
 refine sv (yAsg rfl) ?_
 refine sv (yAsg rfl) ?_
 refine nil ?_
 show Code.wp _ _ _ _ _
 refine seq ?_
 refine block ?_
 refine seq ?_
 refine region ?_
 refine sv (yMove rfl) ?_
 refine sv (yNeq rfl rfl) ?_
 refine sv (yAsg rfl) ?_
 refine nil ?_
 show Code.wp _ _ _ _ _
 refine cond rfl (fun c21 => ?_) (fun c21 => ?_)
 ·
  simp only [BS, ne_eq] at c21
  refine seq ?_
  refine region ?_
  refine sv (yMove rfl) ?_
  refine sv (yAsg rfl) ?_
  refine sv (yAsg rfl) ?_
  refine nil ?_
  show Code.wp _ _ _ _ _
  refine wp_ret (blockR (thenR ?_))
  refine retQ (res2 rfl rfl rfl) ?_
  have hE : askE t now = (checkS t).2.2 := by unfold askE; rw [if_pos c21]
  exact .inl ⟨by rw [hE]; exact c21, by rw [hE]; rfl, hS.ext⟩
 ·
  simp only [BS, ne_eq] at c21
  refine seq ?_
  refine region ?_
  refine sv (yMove rfl) ?_
  refine scall Tryz.call53 (.cons rfl (.cons rfl (.cons rfl .nil))) c_outS ?_
  rintro _ w ⟨rfl, hE⟩; replace hS := hS.step hE; clear hE
  refine sv (yAsg rfl) ?_
  refine nil ?_
  show Code.wp _ _ _ _ _
  refine cond rfl (fun c25 => ?_) (fun c25 => ?_)
  ·
   refine seq ?_
   refine region ?_
   refine sv (yAsg rfl) ?_
   refine sv (yAsg rfl) ?_
   refine nil ?_
   show Code.wp _ _ _ _ _
   refine wp_ret (blockR (thenR ?_))
   refine retQ (res2 rfl rfl rfl) ?_
   have hE : askE t now = 7 := by unfold askE; rw [if_neg (fun k => k c21), if_pos c25]
   exact .inl ⟨by rw [hE]; decide, by rw [hE]; rfl, hS.ext⟩
  ·
   have hask : askE t now = 0 := by unfold askE; rw [if_neg (fun k => k c21), if_neg (by rw [c25]; decide)]
   obtain ⟨hok, hnow⟩ := askE_ok hask
   have htk := hok.tk
   have hnc := hok.nc
   have hnf := hok.nf
   refine skip ?_
   show Code.wp _ _ _ _ _
   refine seq ?_
   refine region ?_
   refine sv (yLdBA rfl Tryz.isAgg29 Tryz.sizeOf29 (hS.at _) rfl rfl) ?_
   refine sv (yMove rfl) ?_
   refine sv (yBuild Tryz.zeroValue123 rfl pl123 (.cons rfl rfl (.cons rfl rfl .nil)) rfl) ?_
   refine sbox hS rfl rfl ?_; clear hS; intro b31 w hS
   refine sv (yAsg rfl) ?_
   refine nil ?_
   show Code.wp _ _ _ _ _
   refine seq ?_
   refine region ?_
   refine sv (yMove rfl) ?_
   refine sv (fa29_0 rfl) ?_
   refine sv (yLdBA rfl Tryz.isAgg24 Tryz.sizeOf24 (hS.at _) rfl rfl) ?_
   refine sv (fa29_3 rfl) ?_
   refine sv (yLdB rfl Tryz.isAgg3 (hS.at _) rfl) ?_
   refine sv (fa29_4 rfl) ?_
   refine sv (yLdB rfl Tryz.isAgg3 (hS.at _) rfl) ?_
   refine scall Tryz.call54 (.cons rfl (.cons rfl (.cons rfl .nil))) (c_Levels (RTable.stays _ _ _ _ hS.ext hT)) ?_
   rintro _ w ⟨tv, rfl, hM⟩; replace hS := hS.call1 hM; clear hM
   rw [levelsF_good hok.lev, show lvlsL t.table t.frm t.ticks.toNat = tidesS t from rfl, tidesS_len] at hS
   obtain ⟨aw, cw, rfl⟩ := row_shape (hS.row tv)
   refine sv (yMove rfl) ?_
   refine sv (yExt rfl rfl) ?_
   refine sv (yExt rfl rfl) ?_
   refine sv (yNil rfl) ?_
   refine sv (fa123_2 rfl) ?_
   refine sst hS rfl rfl Tryz.sizeOf121 rfl rfl rfl rfl ?_; clear hS; intro w hS
   refine nil ?_
   show Code.wp _ _ _ _ _
   refine seq ?_
   refine seq ?_
   refine region ?_
   refine sv (fa29_5 rfl) ?_
   refine sv (yLdB rfl Tryz.isAgg26 (hS.at _) rfl) ?_
   refine sv (yLen rfl Tryz.underlying26) ?_
   refine sv (yMove rfl) ?_
   refine nil ?_
   show Code.wp _ _ _ _ _
   refine block ?_
   refine loop (fun f w zz => ∃ (k : Nat) (xv : Value), f 1 = .int .i64 now ∧ f 2 = .pointer (some ⟨b2, 0, none⟩) ∧ f 9 = .pointer (some ⟨b31, 0, none⟩) ∧ f 46 = .slice ak t.ctrs.length ck ∧ f 47 = .int .i64 (t.ctrs.length : Int) ∧ f 48 = .int .i64 (k : Int) ∧ StX [] w0 w ([rowI (xv) 3 1 k (((curS t now).take k).flatMap Bx.encI), rowI (.slice aw t.ticks.toNat cw) 74 2 t.ticks.toNat ((tidesS t).flatMap spanC), blk b31 [.int .i64 t.table.mean, cv, .slice ag t.gauges.length cg, .int .i64 t.wrong, .int .i64 t.frm, .int .i64 t.ticks, .slice ak t.ctrs.length ck, .slice ae t.fcs.length ce, .int .i64 t.least, .int .i64 t.most, .int .i64 t.rate, .int .i64 t.quorum, .int .i64 now, .slice aw t.ticks.toNat cw, xv, .slice none 0 0] 123, blk b2 [.int .i64 t.table.mean, cv, .slice ag t.gauges.length cg, .int .i64 t.wrong, .int .i64 t.frm, .int .i64 t.ticks, .slice ak t.ctrs.length ck, .slice ae t.fcs.length ce, .int .i64 t.least, .int .i64 t.most, .int .i64 t.rate, .int .i64 t.quorum] 29]) ∧ (k ≤ t.ctrs.length) ∧ zz = t.ctrs.length - k) _ ⟨_, rfl, 0, _, rfl, rfl, rfl, rfl, rfl, rfl, (hS.nilrow 3 1), (Nat.zero_le _), rfl⟩ ?_
   clear hS
   rintro f w _ ⟨k, xv, h1, h2, h9, h46, h47, h48, hS, hk, rfl⟩
   refine seq ?_
   refine region ?_
   refine sv (yLss h48 h47) ?_
   refine nil ?_
   show Code.wp _ _ _ _ _
   refine seq ?_
   refine cond rfl (fun c49 => ?_) (fun c49 => ?_)
   ·
    simp only [BS, ne_eq] at c49
    have hkl : k < t.ctrs.length := by omega
    obtain ⟨bq, oq, cq, haq, hlq, hcq, hRq, -⟩ := sl_at hC (ctr_get hkl)
    obtain ⟨rfl, hnm, -⟩ := hRq
    obtain ⟨q1, q2, q3⟩ := hok.ctrs hkl
    refine skip ?_
    show Code.wp _ _ _ _ _
    refine seq ?_
    refine block ?_
    refine seq ?_
    refine region ?_
    refine sv (yMove h48) ?_
    refine sv (yIxa h46 haq h48 Tryz.runUnderlying26 Tryz.sizeOf57 (by omega) (by omega)) ?_
    refine sv (yLdA rfl Tryz.isAgg57 Tryz.sizeOf57 (hcq.ext hS.ext) rfl) ?_
    refine salloc hS Tryz.zeroValue57 rfl ?_; clear hS; intro b11 w hS
    refine sv (yAsg rfl) ?_
    refine sst hS rfl rfl Tryz.sizeOf57 rfl rfl rfl rfl ?_; clear hS; intro w hS
    refine nil ?_
    show Code.wp _ _ _ _ _
    refine seq ?_
    refine region ?_
    refine sv (yAsg rfl) ?_
    refine nil ?_
    show Code.wp _ _ _ _ _
    refine seq ?_
    refine seq ?_
    refine region ?_
    refine sv (fa29_6 h2) ?_
    refine sv (yLdB rfl Tryz.isAgg27 (hS.at _) rfl) ?_
    refine sv (yLen rfl Tryz.underlying27) ?_
    refine sv (yMove rfl) ?_
    refine nil ?_
    show Code.wp _ _ _ _ _
    refine block ?_
    refine loop (fun f w zz => ∃ (j : Nat), f 1 = .int .i64 now ∧ f 2 = .pointer (some ⟨b2, 0, none⟩) ∧ f 9 = .pointer (some ⟨b31, 0, none⟩) ∧ f 46 = .slice ak t.ctrs.length ck ∧ f 47 = .int .i64 (t.ctrs.length : Int) ∧ f 48 = .int .i64 (k : Int) ∧ f 10 = .int .i64 (k : Int) ∧ f 11 = .pointer (some ⟨b11, 0, none⟩) ∧ f 12 = .int .i64 (curK t now k j) ∧ f 54 = .slice ae t.fcs.length ce ∧ f 55 = .int .i64 (t.fcs.length : Int) ∧ f 56 = .int .i64 (j : Int) ∧ StX [] w0 w ([blk b11 (ctrC (ctr t.ctrs k)) 57, rowI (xv) 3 1 k (((curS t now).take k).flatMap Bx.encI), rowI (.slice aw t.ticks.toNat cw) 74 2 t.ticks.toNat ((tidesS t).flatMap spanC), blk b31 [.int .i64 t.table.mean, cv, .slice ag t.gauges.length cg, .int .i64 t.wrong, .int .i64 t.frm, .int .i64 t.ticks, .slice ak t.ctrs.length ck, .slice ae t.fcs.length ce, .int .i64 t.least, .int .i64 t.most, .int .i64 t.rate, .int .i64 t.quorum, .int .i64 now, .slice aw t.ticks.toNat cw, xv, .slice none 0 0] 123, blk b2 [.int .i64 t.table.mean, cv, .slice ag t.gauges.length cg, .int .i64 t.wrong, .int .i64 t.frm, .int .i64 t.ticks, .slice ak t.ctrs.length ck, .slice ae t.fcs.length ce, .int .i64 t.least, .int .i64 t.most, .int .i64 t.rate, .int .i64 t.quorum] 29]) ∧ (j ≤ t.fcs.length) ∧ zz = t.fcs.length - j) _ ⟨_, rfl, 0, h1, h2, h9, h46, h47, h48, rfl, rfl, rfl, rfl, rfl, rfl, hS, (Nat.zero_le _), rfl⟩ ?_
    clear hS
    rintro f w _ ⟨j, h1, h2, h9, h46, h47, h48, h10, h11, h12, h54, h55, h56, hS, hj, rfl⟩
    refine seq ?_
    refine region ?_
    refine sv (yLss h56 h55) ?_
    refine nil ?_
    show Code.wp _ _ _ _ _
    refine seq ?_
    refine cond rfl (fun c57 => ?_) (fun c57 => ?_)
    ·
     simp only [BS, ne_eq] at c57
     have hjl : j < t.fcs.length := by omega
     obtain ⟨bf, of, cf, haf, hlf, hcf, hRf, -⟩ := sl_at hF (fct_get hjl)
     obtain ⟨mv, rfl, hf1, hf2, hf3, hMm⟩ := hRf
     obtain ⟨am, cm, rfl, -⟩ := id hMm
     obtain ⟨fo1, fo2, fo3, -⟩ := hok.fcts hjl
     have hcb := curK_bd t now k j
     obtain ⟨bl, ol, hlast⟩ := fct_if hF (curK t now k j) (by omega)
     refine skip ?_
     show Code.wp _ _ _ _ _
     refine seq ?_
     refine block ?_
     refine seq ?_
     refine region ?_
     refine sv (yMove h56) ?_
     refine sv (yIxa h54 haf h56 Tryz.runUnderlying27 Tryz.sizeOf61 (by omega) (by omega)) ?_
     refine sv (yLdA rfl Tryz.isAgg61 Tryz.sizeOf61 (hcf.ext hS.ext) rfl) ?_
     refine salloc hS Tryz.zeroValue61 rfl ?_; clear hS; intro b14 w hS
     refine sv (yAsg rfl) ?_
     refine sst hS rfl rfl Tryz.sizeOf61 rfl rfl rfl rfl ?_; clear hS; intro w hS
     refine nil ?_
     show Code.wp _ _ _ _ _
     refine seq ?_
     refine region_draw mixed (by kernel_rfl) hS ?_
     refine qv (fun w hS => (fa61_0 rfl)) ?_
     refine qv (fun w hS => (yLdB rfl Tryz.isAgg3 (hS.at _) rfl)) ?_
     refine qv (fun w hS => (yMove h10)) ?_
     refine qv (fun w hS => (yEql rfl rfl)) ?_
     refine qv (fun w hS => (yMove rfl)) ?_
     refine qg rfl rfl rfl (fun g w hS => (fa61_1 rfl)) (fun v66 g66 => ?_)
     refine qg rfl rfl rfl (fun g w hS => (yLdB (g66.1 g) Tryz.isAgg3 (hS.at _) rfl)) (fun v67 g67 => ?_)
     refine qg rfl rfl rfl (fun g w hS => (yMove h1)) (fun v68 g68 => ?_)
     refine qg rfl rfl rfl (fun g w hS => (fa57_1 h11)) (fun v69 g69 => ?_)
     refine qg rfl rfl rfl (fun g w hS => (yLdB (g69.1 g) Tryz.isAgg3 (hS.at _) rfl)) (fun v70 g70 => ?_)
     refine qg rfl rfl rfl (fun g w hS => (ySub (g68.1 g) (g70.1 g) ⟨by omega, by omega⟩)) (fun v71 g71 => ?_)
     refine qg rfl rfl rfl (fun g w hS => (yLeq (g67.1 g) (g71.1 g))) (fun v72 g72 => ?_)
     refine qv (fun w hS => (yAnd rfl (fun hB => (g72.1 hB)) rfl)) ?_
     refine qv (fun w hS => (yMove rfl)) ?_
     refine qg rfl rfl rfl (fun g w hS => (yMove h12)) (fun v75 g75 => ?_)
     refine qg rfl rfl rfl (fun g w hS => (yLss (g75.1 g) rfl)) (fun v76 g76 => ?_)
     refine qg rfl rfl rfl (fun g w hS => (yMove (g76.1 g))) (fun v77 g77 => ?_)
     refine qgg rfl rfl g77 (fun g w hS => (fa61_1 rfl)) (fun v78 g78 => ?_)
     refine qgg rfl rfl g77 (fun g w hS => (yLdB (g78.1 g) Tryz.isAgg3 (hS.at _) rfl)) (fun v79 g79 => ?_)
     refine qgg rfl rfl g77 (fun g w hS => (fa29_6 h2)) (fun v80 g80 => ?_)
     refine qgg rfl rfl g77 (fun g w hS => (yLdB (g80.1 g) Tryz.isAgg27 (hS.at _) rfl)) (fun v81 g81 => ?_)
     refine qgg rfl rfl g77 (fun g w hS => (yMove h12)) (fun v82 g82 => ?_)
     refine qgg rfl rfl g77 (fun g w hS => (yIxa (g81.1 g) (hlast (by have := of_decide_eq_false g.2; omega)).1 ((g82.1 g).trans (congrArg (Value.int .i64) (show curK t now k j = (((curK t now k j).toNat : Nat) : Int) by have := of_decide_eq_false g.2; omega))) Tryz.runUnderlying27 Tryz.sizeOf61 (by have := of_decide_eq_false g.2; omega) (by have := of_decide_eq_false g.2; omega))) (fun v83 g83 => ?_)
     refine qgg rfl rfl g77 (fun g w hS => (fa61_1 (g83.1 g))) (fun v84 g84 => ?_)
     refine qgg rfl rfl g77 (fun g w hS => (yLd (g84.1 g) Tryz.isAgg3 ((hlast (by have := of_decide_eq_false g.2; omega)).2 |> hS.ext.cell))) (fun v85 g85 => ?_)
     refine qgg rfl rfl g77 (fun g w hS => (yGtr (g79.1 g) (g85.1 g))) (fun v86 g86 => ?_)
     refine qg rfl rfl rfl (fun g w hS => (yOr (g77.1 g) rfl (fun hB => (g86.1 ⟨g, hB⟩)))) (fun v87 g87 => ?_)
     refine qv (fun w hS => (yAnd rfl (fun hB => (g87.1 hB)) rfl)) ?_
     clear hS; refine qnil (fun w hS => ?_)
     show Code.wp _ _ _ _ _
     refine cond rfl (fun c88 => ?_) (fun c88 => ?_)
     ·
      simp only [BS, ne_eq] at c88
      refine region ?_
      refine sv (yMove rfl) ?_
      refine sv (yAsg rfl) ?_
      refine nil ?_
      show Code.wp _ _ _ _ _
      refine region ?_
      refine sv (yAdd h56 rfl ⟨by omega, by omega⟩) ?_
      refine sv (yMove rfl) ?_
      refine nil ?_
      exact ⟨_, _, rfl, ⟨j + 1, h1, h2, h9, h46, h47, h48, h10, h11, (rfl.trans (congrArg (Value.int .i64) (by rw [curK_succ]; unfold curStep; rw [if_pos ⟨c88.1.1, c88.1.2, c88.2⟩]))), h54, h55, rfl, (hS.sub (.cons _ (List.Sublist.refl _))), (by omega), rfl⟩, by omega⟩
     ·
      simp only [BS, ne_eq] at c88
      refine skip ?_
      show Code.wp _ _ _ _ _
      refine region ?_
      refine sv (yAdd h56 rfl ⟨by omega, by omega⟩) ?_
      refine sv (yMove rfl) ?_
      refine nil ?_
      exact ⟨_, _, rfl, ⟨j + 1, h1, h2, h9, h46, h47, h48, h10, h11, (h12.trans (congrArg (Value.int .i64) (by rw [curK_succ]; unfold curStep; rw [if_neg (fun hh => by omega)]))), h54, h55, rfl, (hS.sub (.cons _ (List.Sublist.refl _))), (by omega), rfl⟩, by omega⟩
    ·
     simp only [BS, ne_eq] at c57
     obtain rfl : j = t.fcs.length := by omega
     refine exit ?_
     show Code.wp _ _ _ _ _
     refine region ?_
     refine sv (yMove h9) ?_
     refine sv (yMove h9) ?_
     refine sv (yNil rfl) ?_
     refine sv (fa123_3 rfl) ?_
     refine sv (yLdB rfl Tryz.isAgg39 (hS.at _) rfl) ?_
     refine sv (yMove h12) ?_
     refine sbslice hS Tryz.underlying39 Tryz.sizeOf3 rfl Tryz.zeroValue3 rfl (.cons rfl rfl .nil) rfl ?_; clear hS; intro b97 w hS
     refine sapp (bytes := 8) (size := 1) (v := xv) (m := 1) hS rfl rfl Tryz.underlying39 ti3 rfl rfl rfl rfl (by decide) (blk_cells (hS.at _)) rfl rfl (by have := hok.nc; omega) (by have := hok.nc; omega) ?_; clear hS; intro v98 w hS
     refine sv (yNil rfl) ?_
     refine sv (fa123_3 rfl) ?_
     obtain ⟨a98, c98, rfl⟩ := row_shape (hS.row v98)
     refine sst hS rfl rfl Tryz.sizeOf39 rfl rfl rfl rfl ?_; clear hS; intro w hS
     refine nil ?_
     show Code.wp _ _ _ _ _
     refine region ?_
     refine sv (yAdd h48 rfl ⟨by omega, by omega⟩) ?_
     refine sv (yMove rfl) ?_
     refine nil ?_
     exact ⟨_, _, rfl, ⟨k + 1, _, h1, h2, h9, h46, h47, rfl, (by rw [take_snoc (curS_get t now hkl), List.flatMap_append]; exact hS.sub (.cons _ (.cons _ (List.Sublist.refl _)))), (by omega), rfl⟩, by omega⟩
   ·
    simp only [BS, ne_eq] at c49
    obtain rfl : k = t.ctrs.length := by omega
    rw [← curS_len t now, List.take_length, curS_len] at hS
    obtain ⟨ax, cx, rfl⟩ := row_shape (hS.row xv)
    refine exit ?_
    show Code.wp _ _ _ _ _
    refine seq ?_
    refine region ?_
    refine sv (yMove h9) ?_
    refine sv (yAsg rfl) ?_
    refine sv (yAsg rfl) ?_
    refine nil ?_
    show Code.wp _ _ _ _ _
    refine wp_ret ?_
    refine retQ (res2 rfl rfl rfl) ?_
    exact .inr ⟨hask, b31, aw, cw, ax, cx, rfl, hS.perm (with_perm _ _ _ _) |>.sub (.cons_cons _ (.cons_cons _ (.cons_cons _ (List.nil_sublist _))))⟩
end Go.Proofs.YtgidbailiababaaGreatDoor

/- part Sw9 -/
namespace Go.Proofs.YtgidbailiababaaGreatDoor
open Go Bx
set_option maxHeartbeats 1000000 in
/-- (barrage/surge.spans).ends -/
theorem c_endsS {l : List Span} {v : Value} {fr : Int} {nn : Nat} {w0 : World} (hsl : Sl w0 2 RSpan v l) (hn : l.length = nn) (hlen : nn ≤ 1000) : CE Tryz.prog 121 #[v, .int .i64 fr] w0 (fun u w' => ∃ lv hv, u = .tuple #[.agg [.int .i64 fr, lv].toArray, .agg [.int .i64 fr, hv].toArray] ∧ St w0 w' [rowI lv 3 1 nn ((losS l).flatMap Bx.encI), rowI hv 3 1 nn ((hisS l).flatMap Bx.encI)]) := by
 subst hn
 obtain ⟨a, cap, rfl, hcap, hmx, -⟩ := id hsl
 refine enter Tryz.func121 rfl Tryz.ntmps121 rfl ?_
 have hS := St.start w0
 refine seq ?_
 refine region ?_
 refine salloc hS Tryz.zeroValue41 rfl ?_; clear hS; intro b4 w hS
 refine salloc hS Tryz.zeroValue41 rfl ?_; clear hS; intro b5 w hS
 refine nil ?_
 show Code.wp _ _ _ _ _
 refine seq ?_
 refine region ?_
 refine sv (yMove rfl) ?_
 refine sv (yMove rfl) ?_
 refine sv (fa41_0 rfl) ?_
 refine sst hS rfl rfl Tryz.sizeOf3 rfl rfl rfl rfl ?_; clear hS; intro w hS
 refine sv (fa41_0 rfl) ?_
 refine sst hS rfl rfl Tryz.sizeOf3 rfl rfl rfl rfl ?_; clear hS; intro w hS
 refine nil ?_
 show Code.wp _ _ _ _ _
 refine seq ?_
 refine seq ?_
 refine region ?_
 refine sv (yMove rfl) ?_
 refine sv (yLen rfl Tryz.underlying121) ?_
 refine sv (yMove rfl) ?_
 refine nil ?_
 show Code.wp _ _ _ _ _
 refine block ?_
 refine loop (fun f w zz => ∃ (k : Nat) (lv hv : Value), f 0 = .slice a l.length cap ∧ f 4 = .pointer (some ⟨b4, 0, none⟩) ∧ f 5 = .pointer (some ⟨b5, 0, none⟩) ∧ f 12 = .slice a l.length cap ∧ f 13 = .int .i64 (l.length : Int) ∧ f 14 = .int .i64 (k : Int) ∧ StX [] w0 w [rowI (lv) 3 1 k (((losS l).take k).flatMap Bx.encI), rowI (hv) 3 1 k (((hisS l).take k).flatMap Bx.encI), blk b5 [.int .i64 fr, hv] 41, blk b4 [.int .i64 fr, lv] 41] ∧ (k ≤ l.length) ∧ zz = l.length - k) _ ⟨_, rfl, 0, _, _, rfl, rfl, rfl, rfl, rfl, rfl, ((hS.nilrow 3 1).nilrow 3 1), (Nat.zero_le _), rfl⟩ ?_
 clear hS
 rintro f w _ ⟨k, lv, hv, h0, h4, h5, h12, h13, h14, hS, hk, rfl⟩
 refine seq ?_
 refine region ?_
 refine sv (yLss h14 h13) ?_
 refine nil ?_
 show Code.wp _ _ _ _ _
 refine seq ?_
 refine cond rfl (fun c15 => ?_) (fun c15 => ?_)
 ·
  simp only [BS, ne_eq] at c15
  have hkl : k < l.length := by omega
  obtain ⟨bx, ox, cx, hax, hlx, hcx, hRx, -⟩ := sl_at hsl (spn_get (l := l) hkl)
  obtain ⟨rfl, -⟩ := hRx
  refine skip ?_
  show Code.wp _ _ _ _ _
  refine seq ?_
  refine block ?_
  refine seq ?_
  refine region ?_
  refine sv (yIxa h12 hax h14 Tryz.runUnderlying121 Tryz.sizeOf74 (by omega) (by omega)) ?_
  refine sv (yLdA rfl Tryz.isAgg74 Tryz.sizeOf74 (hcx.ext hS.ext) rfl) ?_
  refine salloc hS Tryz.zeroValue74 rfl ?_; clear hS; intro b7 w hS
  refine sst hS rfl rfl Tryz.sizeOf74 rfl rfl rfl rfl ?_; clear hS; intro w hS
  refine nil ?_
  show Code.wp _ _ _ _ _
  refine region_mix (fun w => w.heap[b7]? = some (.cells (spanC (spn l k) : List Value).toArray 74 (0, 0))) 16 mixed hS ?_
  clear hS; intro w hS
  refine f_step 0 (by kernel_rfl) rfl (fun c a a' w h => by obtain ⟨_, v, hv, _⟩ := h; cases hv) (hS.at b7) (fun w hS => (fa41_1 h4)) ?_
  refine f_step 2 (by kernel_rfl) rfl (fun c a a' w h => by obtain ⟨_, v, hv, _⟩ := h; cases hv) (hS.at b7) (fun w hS => (fa74_0 rfl)) ?_
  refine f_step 3 (by kernel_rfl) rfl (fun c a a' w h => by obtain ⟨_, v, hv, _⟩ := h; cases hv) (hS.at b7) (fun w hS => (yLdB rfl Tryz.isAgg3 hS rfl)) ?_
  refine f_step 6 (by kernel_rfl) rfl (fun c a a' w h => by obtain ⟨_, v, hv, _⟩ := h; cases hv) (hS.at b7) (fun w hS => (fa41_1 h5)) ?_
  refine f_step 8 (by kernel_rfl) rfl (fun c a a' w h => by obtain ⟨_, v, hv, _⟩ := h; cases hv) (hS.at b7) (fun w hS => (fa74_1 rfl)) ?_
  refine f_step 9 (by kernel_rfl) rfl (fun c a a' w h => by obtain ⟨_, v, hv, _⟩ := h; cases hv) (hS.at b7) (fun w hS => (yLdB rfl Tryz.isAgg3 hS rfl)) ?_
  show wpA _ _ _ _ _ _ _ _ _ _
  refine a_step (i := 1) (is := [4, 7, 10]) (by kernel_rfl) ⟨?_, ?_, ?_, ?_, trivial⟩
  ·
   refine ⟨_, rfl, ?_⟩
   refine sv (yLdB rfl Tryz.isAgg39 (hS.at _) rfl) ?_
   refine nil ?_
   refine ⟨fun _ => (hS.at b7), ?_⟩
   show wpA _ _ _ _ _ _ _ _ _ _
   show wpA _ _ _ _ _ _ _ _ _ _
   refine a_step (i := 4) (is := [7, 10]) (by kernel_rfl) ⟨?_, ?_, ?_, trivial⟩
   ·
    refine ⟨_, rfl, ?_⟩
    refine sbslice hS Tryz.underlying39 Tryz.sizeOf3 rfl Tryz.zeroValue3 rfl (.cons rfl rfl .nil) rfl ?_; clear hS; intro b22 w hS
    refine nil ?_
    refine ⟨fun _ => (hS.at b7), ?_⟩
    show wpA _ _ _ _ _ _ _ _ _ _
    show wpA _ _ _ _ _ _ _ _ _ _
    refine a_step (i := 5) (is := [7, 10]) (by kernel_rfl) ⟨?_, ?_, ?_, trivial⟩
    ·
     refine ⟨_, rfl, ?_⟩
     refine sapp (bytes := 8) (size := 1) (v := lv) (m := 1) hS rfl rfl Tryz.underlying39 ti3 rfl rfl rfl rfl (by decide) (blk_cells (hS.at _)) rfl rfl (by omega) (by omega) ?_; clear hS; intro v23 w hS
     refine nil ?_
     refine ⟨fun _ => (hS.at b7), ?_⟩
     show wpA _ _ _ _ _ _ _ _ _ _
     refine f_step 12 (by kernel_rfl) rfl (fun c a a' w h => by obtain ⟨_, v, hv, _⟩ := h; cases hv) (hS.at b7) (fun w hS => (fa41_1 h4)) ?_
     show wpA _ _ _ _ _ _ _ _ _ _
     refine a_step (i := 7) (is := [10]) (by kernel_rfl) ⟨?_, ?_, trivial⟩
     ·
      refine ⟨_, rfl, ?_⟩
      refine sv (yLdB rfl Tryz.isAgg39 (hS.at _) rfl) ?_
      refine nil ?_
      refine ⟨fun _ => (hS.at b7), ?_⟩
      show wpA _ _ _ _ _ _ _ _ _ _
      show wpA _ _ _ _ _ _ _ _ _ _
      refine a_step (i := 10) (is := []) (by kernel_rfl) ⟨?_, trivial⟩
      refine ⟨_, rfl, ?_⟩
      refine sbslice hS Tryz.underlying39 Tryz.sizeOf3 rfl Tryz.zeroValue3 rfl (.cons rfl rfl .nil) rfl ?_; clear hS; intro b28 w hS
      refine nil ?_
      refine ⟨fun _ => (hS.at b7), ?_⟩
      show wpA _ _ _ _ _ _ _ _ _ _
      show wpA _ _ _ _ _ _ _ _ _ _
      refine a_step (i := 11) (is := []) (by kernel_rfl) ⟨?_, trivial⟩
      refine ⟨_, rfl, ?_⟩
      refine sapp (bytes := 8) (size := 1) (v := hv) (m := 1) hS rfl rfl Tryz.underlying39 ti3 rfl rfl rfl rfl (by decide) (blk_cells (hS.at _)) rfl rfl (by omega) (by omega) ?_; clear hS; intro v29 w hS
      refine nil ?_
      refine ⟨fun _ => (hS.at b7), ?_⟩
      show wpA _ _ _ _ _ _ _ _ _ _
      show wpA _ _ _ _ _ _ _ _ _ _
      refine a_step (i := 13) (is := []) (by kernel_rfl) ⟨?_, trivial⟩
      refine ⟨_, rfl, ?_⟩
      obtain ⟨a23, c23, rfl⟩ := row_shape (hS.row v23)
      refine sst hS rfl rfl Tryz.sizeOf39 rfl rfl rfl rfl ?_; clear hS; intro w hS
      refine nil ?_
      refine ⟨fun _ => (hS.at b7), ?_⟩
      show wpA _ _ _ _ _ _ _ _ _ _
      refine f_step 14 (by kernel_rfl) rfl (fun c a a' w h => by obtain ⟨_, v, hv, _⟩ := h; cases hv) (hS.at b7) (fun w hS => (fa41_1 h5)) ?_
      show wpA _ _ _ _ _ _ _ _ _ _
      refine a_step (i := 15) (is := []) (by kernel_rfl) ⟨?_, trivial⟩
      refine ⟨_, rfl, ?_⟩
      obtain ⟨a29, c29, rfl⟩ := row_shape (hS.row v29)
      refine sst hS rfl rfl Tryz.sizeOf39 rfl rfl rfl rfl ?_; clear hS; intro w hS
      refine nil ?_
      refine ⟨fun _ => (hS.at b7), ?_⟩
      show wpA _ _ _ _ _ _ _ _ _ _
      refine a_end (by kernel_rfl) ?_
      show Code.wp _ _ _ _ _
      refine region ?_
      refine sv (yAdd h14 rfl ⟨by omega, by omega⟩) ?_
      refine sv (yMove rfl) ?_
      refine nil ?_
      exact ⟨_, _, rfl, ⟨k + 1, _, _, h0, h4, h5, h12, h13, rfl, (by rw [take_snoc (show (losS l)[k]? = some (spn l k).lo by simp [losS, spn_get hkl]), take_snoc (show (hisS l)[k]? = some (spn l k).hi by simp [hisS, spn_get hkl]), List.flatMap_append, List.flatMap_append]; first | exact hS.sub (.cons _ (.cons _ (.cons _ (List.Sublist.refl _)))) | exact (hS.sub (.cons _ (.cons _ (.cons _ (List.Sublist.refl _))))).perm (List.Perm.swap _ _ _)), (by omega), rfl⟩, by omega⟩
     ·
      refine ⟨_, rfl, ?_⟩
      refine sbslice hS Tryz.underlying39 Tryz.sizeOf3 rfl Tryz.zeroValue3 rfl (.cons rfl rfl .nil) rfl ?_; clear hS; intro b28 w hS
      refine nil ?_
      refine ⟨fun _ => (hS.at b7), ?_⟩
      show wpA _ _ _ _ _ _ _ _ _ _
      show wpA _ _ _ _ _ _ _ _ _ _
      refine a_step (i := 7) (is := []) (by kernel_rfl) ⟨?_, trivial⟩
      refine ⟨_, rfl, ?_⟩
      refine sv (yLdB rfl Tryz.isAgg39 (hS.at _) rfl) ?_
      refine nil ?_
      refine ⟨fun _ => (hS.at b7), ?_⟩
      show wpA _ _ _ _ _ _ _ _ _ _
      show wpA _ _ _ _ _ _ _ _ _ _
      refine a_step (i := 11) (is := []) (by kernel_rfl) ⟨?_, trivial⟩
      refine ⟨_, rfl, ?_⟩
      refine sapp (bytes := 8) (size := 1) (v := hv) (m := 1) hS rfl rfl Tryz.underlying39 ti3 rfl rfl rfl rfl (by decide) (blk_cells (hS.at _)) rfl rfl (by omega) (by omega) ?_; clear hS; intro v29 w hS
      refine nil ?_
      refine ⟨fun _ => (hS.at b7), ?_⟩
      show wpA _ _ _ _ _ _ _ _ _ _
      show wpA _ _ _ _ _ _ _ _ _ _
      refine a_step (i := 13) (is := []) (by kernel_rfl) ⟨?_, trivial⟩
      refine ⟨_, rfl, ?_⟩
      obtain ⟨a23, c23, rfl⟩ := row_shape (hS.row v23)
      refine sst hS rfl rfl Tryz.sizeOf39 rfl rfl rfl rfl ?_; clear hS; intro w hS
      refine nil ?_
      refine ⟨fun _ => (hS.at b7), ?_⟩
      show wpA _ _ _ _ _ _ _ _ _ _
      refine f_step 14 (by kernel_rfl) rfl (fun c a a' w h => by obtain ⟨_, v, hv, _⟩ := h; cases hv) (hS.at b7) (fun w hS => (fa41_1 h5)) ?_
      show wpA _ _ _ _ _ _ _ _ _ _
      refine a_step (i := 15) (is := []) (by kernel_rfl) ⟨?_, trivial⟩
      refine ⟨_, rfl, ?_⟩
      obtain ⟨a29, c29, rfl⟩ := row_shape (hS.row v29)
      refine sst hS rfl rfl Tryz.sizeOf39 rfl rfl rfl rfl ?_; clear hS; intro w hS
      refine nil ?_
      refine ⟨fun _ => (hS.at b7), ?_⟩
      show wpA _ _ _ _ _ _ _ _ _ _
      refine a_end (by kernel_rfl) ?_
      show Code.wp _ _ _ _ _
      refine region ?_
      refine sv (yAdd h14 rfl ⟨by omega, by omega⟩) ?_
      refine sv (yMove rfl) ?_
      refine nil ?_
      exact ⟨_, _, rfl, ⟨k + 1, _, _, h0, h4, h5, h12, h13, rfl, (by rw [take_snoc (show (losS l)[k]? = some (spn l k).lo by simp [losS, spn_get hkl]), take_snoc (show (hisS l)[k]? = some (spn l k).hi by simp [hisS, spn_get hkl]), List.flatMap_append, List.flatMap_append]; first | exact hS.sub (.cons _ (.cons _ (.cons _ (List.Sublist.refl _)))) | exact (hS.sub (.cons _ (.cons _ (.cons _ (List.Sublist.refl _))))).perm (List.Perm.swap _ _ _)), (by omega), rfl⟩, by omega⟩
    ·
     refine ⟨_, rfl, ?_⟩
     refine sv (yLdB rfl Tryz.isAgg39 (hS.at _) rfl) ?_
     refine nil ?_
     refine ⟨fun _ => (hS.at b7), ?_⟩
     show wpA _ _ _ _ _ _ _ _ _ _
     show wpA _ _ _ _ _ _ _ _ _ _
     refine a_step (i := 5) (is := [10]) (by kernel_rfl) ⟨?_, ?_, trivial⟩
     ·
      refine ⟨_, rfl, ?_⟩
      refine sapp (bytes := 8) (size := 1) (v := lv) (m := 1) hS rfl rfl Tryz.underlying39 ti3 rfl rfl rfl rfl (by decide) (blk_cells (hS.at _)) rfl rfl (by omega) (by omega) ?_; clear hS; intro v23 w hS
      refine nil ?_
      refine ⟨fun _ => (hS.at b7), ?_⟩
      show wpA _ _ _ _ _ _ _ _ _ _
      refine f_step 12 (by kernel_rfl) rfl (fun c a a' w h => by obtain ⟨_, v, hv, _⟩ := h; cases hv) (hS.at b7) (fun w hS => (fa41_1 h4)) ?_
      show wpA _ _ _ _ _ _ _ _ _ _
      refine a_step (i := 10) (is := []) (by kernel_rfl) ⟨?_, trivial⟩
      refine ⟨_, rfl, ?_⟩
      refine sbslice hS Tryz.underlying39 Tryz.sizeOf3 rfl Tryz.zeroValue3 rfl (.cons rfl rfl .nil) rfl ?_; clear hS; intro b28 w hS
      refine nil ?_
      refine ⟨fun _ => (hS.at b7), ?_⟩
      show wpA _ _ _ _ _ _ _ _ _ _
      show wpA _ _ _ _ _ _ _ _ _ _
      refine a_step (i := 11) (is := []) (by kernel_rfl) ⟨?_, trivial⟩
      refine ⟨_, rfl, ?_⟩
      refine sapp (bytes := 8) (size := 1) (v := hv) (m := 1) hS rfl rfl Tryz.underlying39 ti3 rfl rfl rfl rfl (by decide) (blk_cells (hS.at _)) rfl rfl (by omega) (by omega) ?_; clear hS; intro v29 w hS
      refine nil ?_
      refine ⟨fun _ => (hS.at b7), ?_⟩
      show wpA _ _ _ _ _ _ _ _ _ _
      show wpA _ _ _ _ _ _ _ _ _ _
      refine a_step (i := 13) (is := []) (by kernel_rfl) ⟨?_, trivial⟩
      refine ⟨_, rfl, ?_⟩
      obtain ⟨a23, c23, rfl⟩ := row_shape (hS.row v23)
      refine sst hS rfl rfl Tryz.sizeOf39 rfl rfl rfl rfl ?_; clear hS; intro w hS
      refine nil ?_
      refine ⟨fun _ => (hS.at b7), ?_⟩
      show wpA _ _ _ _ _ _ _ _ _ _
      refine f_step 14 (by kernel_rfl) rfl (fun c a a' w h => by obtain ⟨_, v, hv, _⟩ := h; cases hv) (hS.at b7) (fun w hS => (fa41_1 h5)) ?_
      show wpA _ _ _ _ _ _ _ _ _ _
      refine a_step (i := 15) (is := []) (by kernel_rfl) ⟨?_, trivial⟩
      refine ⟨_, rfl, ?_⟩
      obtain ⟨a29, c29, rfl⟩ := row_shape (hS.row v29)
      refine sst hS rfl rfl Tryz.sizeOf39 rfl rfl rfl rfl ?_; clear hS; intro w hS
      refine nil ?_
      refine ⟨fun _ => (hS.at b7), ?_⟩
      show wpA _ _ _ _ _ _ _ _ _ _
      refine a_end (by kernel_rfl) ?_
      show Code.wp _ _ _ _ _
      refine region ?_
      refine sv (yAdd h14 rfl ⟨by omega, by omega⟩) ?_
      refine sv (yMove rfl) ?_
      refine nil ?_
      exact ⟨_, _, rfl, ⟨k + 1, _, _, h0, h4, h5, h12, h13, rfl, (by rw [take_snoc (show (losS l)[k]? = some (spn l k).lo by simp [losS, spn_get hkl]), take_snoc (show (hisS l)[k]? = some (spn l k).hi by simp [hisS, spn_get hkl]), List.flatMap_append, List.flatMap_append]; first | exact hS.sub (.cons _ (.cons _ (.cons _ (List.Sublist.refl _)))) | exact (hS.sub (.cons _ (.cons _ (.cons _ (List.Sublist.refl _))))).perm (List.Perm.swap _ _ _)), (by omega), rfl⟩, by omega⟩
     ·
      refine ⟨_, rfl, ?_⟩
      refine sbslice hS Tryz.underlying39 Tryz.sizeOf3 rfl Tryz.zeroValue3 rfl (.cons rfl rfl .nil) rfl ?_; clear hS; intro b28 w hS
      refine nil ?_
      refine ⟨fun _ => (hS.at b7), ?_⟩
      show wpA _ _ _ _ _ _ _ _ _ _
      show wpA _ _ _ _ _ _ _ _ _ _
      refine a_step (i := 5) (is := []) (by kernel_rfl) ⟨?_, trivial⟩
      refine ⟨_, rfl, ?_⟩
      refine sapp (bytes := 8) (size := 1) (v := lv) (m := 1) hS rfl rfl Tryz.underlying39 ti3 rfl rfl rfl rfl (by decide) (blk_cells (hS.at _)) rfl rfl (by omega) (by omega) ?_; clear hS; intro v23 w hS
      refine nil ?_
      refine ⟨fun _ => (hS.at b7), ?_⟩
      show wpA _ _ _ _ _ _ _ _ _ _
      refine f_step 12 (by kernel_rfl) rfl (fun c a a' w h => by obtain ⟨_, v, hv, _⟩ := h; cases hv) (hS.at b7) (fun w hS => (fa41_1 h4)) ?_
      show wpA _ _ _ _ _ _ _ _ _ _
      refine a_step (i := 11) (is := []) (by kernel_rfl) ⟨?_, trivial⟩
      refine ⟨_, rfl, ?_⟩
      refine sapp (bytes := 8) (size := 1) (v := hv) (m := 1) hS rfl rfl Tryz.underlying39 ti3 rfl rfl rfl rfl (by decide) (blk_cells (hS.at _)) rfl rfl (by omega) (by omega) ?_; clear hS; intro v29 w hS
      refine nil ?_
      refine ⟨fun _ => (hS.at b7), ?_⟩
      show wpA _ _ _ _ _ _ _ _ _ _
      show wpA _ _ _ _ _ _ _ _ _ _
      refine a_step (i := 13) (is := []) (by kernel_rfl) ⟨?_, trivial⟩
      refine ⟨_, rfl, ?_⟩
      obtain ⟨a23, c23, rfl⟩ := row_shape (hS.row v23)
      refine sst hS rfl rfl Tryz.sizeOf39 rfl rfl rfl rfl ?_; clear hS; intro w hS
      refine nil ?_
      refine ⟨fun _ => (hS.at b7), ?_⟩
      show wpA _ _ _ _ _ _ _ _ _ _
      refine f_step 14 (by kernel_rfl) rfl (fun c a a' w h => by obtain ⟨_, v, hv, _⟩ := h; cases hv) (hS.at b7) (fun w hS => (fa41_1 h5)) ?_
      show wpA _ _ _ _ _ _ _ _ _ _
      refine a_step (i := 15) (is := []) (by kernel_rfl) ⟨?_, trivial⟩
      refine ⟨_, rfl, ?_⟩
      obtain ⟨a29, c29, rfl⟩ := row_shape (hS.row v29)
      refine sst hS rfl rfl Tryz.sizeOf39 rfl rfl rfl rfl ?_; clear hS; intro w hS
      refine nil ?_
      refine ⟨fun _ => (hS.at b7), ?_⟩
      show wpA _ _ _ _ _ _ _ _ _ _
      refine a_end (by kernel_rfl) ?_
      show Code.wp _ _ _ _ _
      refine region ?_
      refine sv (yAdd h14 rfl ⟨by omega, by omega⟩) ?_
      refine sv (yMove rfl) ?_
      refine nil ?_
      exact ⟨_, _, rfl, ⟨k + 1, _, _, h0, h4, h5, h12, h13, rfl, (by rw [take_snoc (show (losS l)[k]? = some (spn l k).lo by simp [losS, spn_get hkl]), take_snoc (show (hisS l)[k]? = some (spn l k).hi by simp [hisS, spn_get hkl]), List.flatMap_append, List.flatMap_append]; first | exact hS.sub (.cons _ (.cons _ (.cons _ (List.Sublist.refl _)))) | exact (hS.sub (.cons _ (.cons _ (.cons _ (List.Sublist.refl _))))).perm (List.Perm.swap _ _ _)), (by omega), rfl⟩, by omega⟩
    ·
     refine ⟨_, rfl, ?_⟩
     refine sbslice hS Tryz.underlying39 Tryz.sizeOf3 rfl Tryz.zeroValue3 rfl (.cons rfl rfl .nil) rfl ?_; clear hS; intro b28 w hS
     refine nil ?_
     refine ⟨fun _ => (hS.at b7), ?_⟩
     show wpA _ _ _ _ _ _ _ _ _ _
     show wpA _ _ _ _ _ _ _ _ _ _
     refine a_step (i := 5) (is := [7]) (by kernel_rfl) ⟨?_, ?_, trivial⟩
     ·
      refine ⟨_, rfl, ?_⟩
      refine sapp (bytes := 8) (size := 1) (v := lv) (m := 1) hS rfl rfl Tryz.underlying39 ti3 rfl rfl rfl rfl (by decide) (blk_cells (hS.at _)) rfl rfl (by omega) (by omega) ?_; clear hS; intro v23 w hS
      refine nil ?_
      refine ⟨fun _ => (hS.at b7), ?_⟩
      show wpA _ _ _ _ _ _ _ _ _ _
      refine f_step 12 (by kernel_rfl) rfl (fun c a a' w h => by obtain ⟨_, v, hv, _⟩ := h; cases hv) (hS.at b7) (fun w hS => (fa41_1 h4)) ?_
      show wpA _ _ _ _ _ _ _ _ _ _
      refine a_step (i := 7) (is := []) (by kernel_rfl) ⟨?_, trivial⟩
      refine ⟨_, rfl, ?_⟩
      refine sv (yLdB rfl Tryz.isAgg39 (hS.at _) rfl) ?_
      refine nil ?_
      refine ⟨fun _ => (hS.at b7), ?_⟩
      show wpA _ _ _ _ _ _ _ _ _ _
      show wpA _ _ _ _ _ _ _ _ _ _
      refine a_step (i := 11) (is := []) (by kernel_rfl) ⟨?_, trivial⟩
      refine ⟨_, rfl, ?_⟩
      refine sapp (bytes := 8) (size := 1) (v := hv) (m := 1) hS rfl rfl Tryz.underlying39 ti3 rfl rfl rfl rfl (by decide) (blk_cells (hS.at _)) rfl rfl (by omega) (by omega) ?_; clear hS; intro v29 w hS
      refine nil ?_
      refine ⟨fun _ => (hS.at b7), ?_⟩
      show wpA _ _ _ _ _ _ _ _ _ _
      show wpA _ _ _ _ _ _ _ _ _ _
      refine a_step (i := 13) (is := []) (by kernel_rfl) ⟨?_, trivial⟩
      refine ⟨_, rfl, ?_⟩
      obtain ⟨a23, c23, rfl⟩ := row_shape (hS.row v23)
      refine sst hS rfl rfl Tryz.sizeOf39 rfl rfl rfl rfl ?_; clear hS; intro w hS
      refine nil ?_
      refine ⟨fun _ => (hS.at b7), ?_⟩
      show wpA _ _ _ _ _ _ _ _ _ _
      refine f_step 14 (by kernel_rfl) rfl (fun c a a' w h => by obtain ⟨_, v, hv, _⟩ := h; cases hv) (hS.at b7) (fun w hS => (fa41_1 h5)) ?_
      show wpA _ _ _ _ _ _ _ _ _ _
      refine a_step (i := 15) (is := []) (by kernel_rfl) ⟨?_, trivial⟩
      refine ⟨_, rfl, ?_⟩
      obtain ⟨a29, c29, rfl⟩ := row_shape (hS.row v29)
      refine sst hS rfl rfl Tryz.sizeOf39 rfl rfl rfl rfl ?_; clear hS; intro w hS
      refine nil ?_
      refine ⟨fun _ => (hS.at b7), ?_⟩
      show wpA _ _ _ _ _ _ _ _ _ _
      refine a_end (by kernel_rfl) ?_
      show Code.wp _ _ _ _ _
      refine region ?_
      refine sv (yAdd h14 rfl ⟨by omega, by omega⟩) ?_
      refine sv (yMove rfl) ?_
      refine nil ?_
      exact ⟨_, _, rfl, ⟨k + 1, _, _, h0, h4, h5, h12, h13, rfl, (by rw [take_snoc (show (losS l)[k]? = some (spn l k).lo by simp [losS, spn_get hkl]), take_snoc (show (hisS l)[k]? = some (spn l k).hi by simp [hisS, spn_get hkl]), List.flatMap_append, List.flatMap_append]; first | exact hS.sub (.cons _ (.cons _ (.cons _ (List.Sublist.refl _)))) | exact (hS.sub (.cons _ (.cons _ (.cons _ (List.Sublist.refl _))))).perm (List.Perm.swap _ _ _)), (by omega), rfl⟩, by omega⟩
     ·
      refine ⟨_, rfl, ?_⟩
      refine sv (yLdB rfl Tryz.isAgg39 (hS.at _) rfl) ?_
      refine nil ?_
      refine ⟨fun _ => (hS.at b7), ?_⟩
      show wpA _ _ _ _ _ _ _ _ _ _
      show wpA _ _ _ _ _ _ _ _ _ _
      refine a_step (i := 5) (is := []) (by kernel_rfl) ⟨?_, trivial⟩
      refine ⟨_, rfl, ?_⟩
      refine sapp (bytes := 8) (size := 1) (v := lv) (m := 1) hS rfl rfl Tryz.underlying39 ti3 rfl rfl rfl rfl (by decide) (blk_cells (hS.at _)) rfl rfl (by omega) (by omega) ?_; clear hS; intro v23 w hS
      refine nil ?_
      refine ⟨fun _ => (hS.at b7), ?_⟩
      show wpA _ _ _ _ _ _ _ _ _ _
      refine f_step 12 (by kernel_rfl) rfl (fun c a a' w h => by obtain ⟨_, v, hv, _⟩ := h; cases hv) (hS.at b7) (fun w hS => (fa41_1 h4)) ?_
      show wpA _ _ _ _ _ _ _ _ _ _
      refine a_step (i := 11) (is := []) (by kernel_rfl) ⟨?_, trivial⟩
      refine ⟨_, rfl, ?_⟩
      refine sapp (bytes := 8) (size := 1) (v := hv) (m := 1) hS rfl rfl Tryz.underlying39 ti3 rfl rfl rfl rfl (by decide) (blk_cells (hS.at _)) rfl rfl (by omega) (by omega) ?_; clear hS; intro v29 w hS
      refine nil ?_
      refine ⟨fun _ => (hS.at b7), ?_⟩
      show wpA _ _ _ _ _ _ _ _ _ _
      show wpA _ _ _ _ _ _ _ _ _ _
      refine a_step (i := 13) (is := []) (by kernel_rfl) ⟨?_, trivial⟩
      refine ⟨_, rfl, ?_⟩
      obtain ⟨a23, c23, rfl⟩ := row_shape (hS.row v23)
      refine sst hS rfl rfl Tryz.sizeOf39 rfl rfl rfl rfl ?_; clear hS; intro w hS
      refine nil ?_
      refine ⟨fun _ => (hS.at b7), ?_⟩
      show wpA _ _ _ _ _ _ _ _ _ _
      refine f_step 14 (by kernel_rfl) rfl (fun c a a' w h => by obtain ⟨_, v, hv, _⟩ := h; cases hv) (hS.at b7) (fun w hS => (fa41_1 h5)) ?_
      show wpA _ _ _ _ _ _ _ _ _ _
      refine a_step (i := 15) (is := []) (by kernel_rfl) ⟨?_, trivial⟩
      refine ⟨_, rfl, ?_⟩
      obtain ⟨a29, c29, rfl⟩ := row_shape (hS.row v29)
      refine sst hS rfl rfl Tryz.sizeOf39 rfl rfl rfl rfl ?_; clear hS; intro w hS
      refine nil ?_
      refine ⟨fun _ => (hS.at b7), ?_⟩
      show wpA _ _ _ _ _ _ _ _ _ _
      refine a_end (by kernel_rfl) ?_
      show Code.wp _ _ _ _ _
      refine region ?_
      refine sv (yAdd h14 rfl ⟨by omega, by omega⟩) ?_
      refine sv (yMove rfl) ?_
      refine nil ?_
      exact ⟨_, _, rfl, ⟨k + 1, _, _, h0, h4, h5, h12, h13, rfl, (by rw [take_snoc (show (losS l)[k]? = some (spn l k).lo by simp [losS, spn_get hkl]), take_snoc (show (hisS l)[k]? = some (spn l k).hi by simp [hisS, spn_get hkl]), List.flatMap_append, List.flatMap_append]; first | exact hS.sub (.cons _ (.cons _ (.cons _ (List.Sublist.refl _)))) | exact (hS.sub (.cons _ (.cons _ (.cons _ (List.Sublist.refl _))))).perm (List.Perm.swap _ _ _)), (by omega), rfl⟩, by omega⟩
   ·
    refine ⟨_, rfl, ?_⟩
    refine sv (yLdB rfl Tryz.isAgg39 (hS.at _) rfl) ?_
    refine nil ?_
    refine ⟨fun _ => (hS.at b7), ?_⟩
    show wpA _ _ _ _ _ _ _ _ _ _
    show wpA _ _ _ _ _ _ _ _ _ _
    refine a_step (i := 4) (is := [10]) (by kernel_rfl) ⟨?_, ?_, trivial⟩
    ·
     refine ⟨_, rfl, ?_⟩
     refine sbslice hS Tryz.underlying39 Tryz.sizeOf3 rfl Tryz.zeroValue3 rfl (.cons rfl rfl .nil) rfl ?_; clear hS; intro b22 w hS
     refine nil ?_
     refine ⟨fun _ => (hS.at b7), ?_⟩
     show wpA _ _ _ _ _ _ _ _ _ _
     show wpA _ _ _ _ _ _ _ _ _ _
     refine a_step (i := 5) (is := [10]) (by kernel_rfl) ⟨?_, ?_, trivial⟩
     ·
      refine ⟨_, rfl, ?_⟩
      refine sapp (bytes := 8) (size := 1) (v := lv) (m := 1) hS rfl rfl Tryz.underlying39 ti3 rfl rfl rfl rfl (by decide) (blk_cells (hS.at _)) rfl rfl (by omega) (by omega) ?_; clear hS; intro v23 w hS
      refine nil ?_
      refine ⟨fun _ => (hS.at b7), ?_⟩
      show wpA _ _ _ _ _ _ _ _ _ _
      refine f_step 12 (by kernel_rfl) rfl (fun c a a' w h => by obtain ⟨_, v, hv, _⟩ := h; cases hv) (hS.at b7) (fun w hS => (fa41_1 h4)) ?_
      show wpA _ _ _ _ _ _ _ _ _ _
      refine a_step (i := 10) (is := []) (by kernel_rfl) ⟨?_, trivial⟩
      refine ⟨_, rfl, ?_⟩
      refine sbslice hS Tryz.underlying39 Tryz.sizeOf3 rfl Tryz.zeroValue3 rfl (.cons rfl rfl .nil) rfl ?_; clear hS; intro b28 w hS
      refine nil ?_
      refine ⟨fun _ => (hS.at b7), ?_⟩
      show wpA _ _ _ _ _ _ _ _ _ _
      show wpA _ _ _ _ _ _ _ _ _ _
      refine a_step (i := 11) (is := []) (by kernel_rfl) ⟨?_, trivial⟩
      refine ⟨_, rfl, ?_⟩
      refine sapp (bytes := 8) (size := 1) (v := hv) (m := 1) hS rfl rfl Tryz.underlying39 ti3 rfl rfl rfl rfl (by decide) (blk_cells (hS.at _)) rfl rfl (by omega) (by omega) ?_; clear hS; intro v29 w hS
      refine nil ?_
      refine ⟨fun _ => (hS.at b7), ?_⟩
      show wpA _ _ _ _ _ _ _ _ _ _
      show wpA _ _ _ _ _ _ _ _ _ _
      refine a_step (i := 13) (is := []) (by kernel_rfl) ⟨?_, trivial⟩
      refine ⟨_, rfl, ?_⟩
      obtain ⟨a23, c23, rfl⟩ := row_shape (hS.row v23)
      refine sst hS rfl rfl Tryz.sizeOf39 rfl rfl rfl rfl ?_; clear hS; intro w hS
      refine nil ?_
      refine ⟨fun _ => (hS.at b7), ?_⟩
      show wpA _ _ _ _ _ _ _ _ _ _
      refine f_step 14 (by kernel_rfl) rfl (fun c a a' w h => by obtain ⟨_, v, hv, _⟩ := h; cases hv) (hS.at b7) (fun w hS => (fa41_1 h5)) ?_
      show wpA _ _ _ _ _ _ _ _ _ _
      refine a_step (i := 15) (is := []) (by kernel_rfl) ⟨?_, trivial⟩
      refine ⟨_, rfl, ?_⟩
      obtain ⟨a29, c29, rfl⟩ := row_shape (hS.row v29)
      refine sst hS rfl rfl Tryz.sizeOf39 rfl rfl rfl rfl ?_; clear hS; intro w hS
      refine nil ?_
      refine ⟨fun _ => (hS.at b7), ?_⟩
      show wpA _ _ _ _ _ _ _ _ _ _
      refine a_end (by kernel_rfl) ?_
      show Code.wp _ _ _ _ _
      refine region ?_
      refine sv (yAdd h14 rfl ⟨by omega, by omega⟩) ?_
      refine sv (yMove rfl) ?_
      refine nil ?_
      exact ⟨_, _, rfl, ⟨k + 1, _, _, h0, h4, h5, h12, h13, rfl, (by rw [take_snoc (show (losS l)[k]? = some (spn l k).lo by simp [losS, spn_get hkl]), take_snoc (show (hisS l)[k]? = some (spn l k).hi by simp [hisS, spn_get hkl]), List.flatMap_append, List.flatMap_append]; first | exact hS.sub (.cons _ (.cons _ (.cons _ (List.Sublist.refl _)))) | exact (hS.sub (.cons _ (.cons _ (.cons _ (List.Sublist.refl _))))).perm (List.Perm.swap _ _ _)), (by omega), rfl⟩, by omega⟩
     ·
      refine ⟨_, rfl, ?_⟩
      refine sbslice hS Tryz.underlying39 Tryz.sizeOf3 rfl Tryz.zeroValue3 rfl (.cons rfl rfl .nil) rfl ?_; clear hS; intro b28 w hS
      refine nil ?_
      refine ⟨fun _ => (hS.at b7), ?_⟩
      show wpA _ _ _ _ _ _ _ _ _ _
      show wpA _ _ _ _ _ _ _ _ _ _
      refine a_step (i := 5) (is := []) (by kernel_rfl) ⟨?_, trivial⟩
      refine ⟨_, rfl, ?_⟩
      refine sapp (bytes := 8) (size := 1) (v := lv) (m := 1) hS rfl rfl Tryz.underlying39 ti3 rfl rfl rfl rfl (by decide) (blk_cells (hS.at _)) rfl rfl (by omega) (by omega) ?_; clear hS; intro v23 w hS
      refine nil ?_
      refine ⟨fun _ => (hS.at b7), ?_⟩
      show wpA _ _ _ _ _ _ _ _ _ _
      refine f_step 12 (by kernel_rfl) rfl (fun c a a' w h => by obtain ⟨_, v, hv, _⟩ := h; cases hv) (hS.at b7) (fun w hS => (fa41_1 h4)) ?_
      show wpA _ _ _ _ _ _ _ _ _ _
      refine a_step (i := 11) (is := []) (by kernel_rfl) ⟨?_, trivial⟩
      refine ⟨_, rfl, ?_⟩
      refine sapp (bytes := 8) (size := 1) (v := hv) (m := 1) hS rfl rfl Tryz.underlying39 ti3 rfl rfl rfl rfl (by decide) (blk_cells (hS.at _)) rfl rfl (by omega) (by omega) ?_; clear hS; intro v29 w hS
      refine nil ?_
      refine ⟨fun _ => (hS.at b7), ?_⟩
      show wpA _ _ _ _ _ _ _ _ _ _
      show wpA _ _ _ _ _ _ _ _ _ _
      refine a_step (i := 13) (is := []) (by kernel_rfl) ⟨?_, trivial⟩
      refine ⟨_, rfl, ?_⟩
      obtain ⟨a23, c23, rfl⟩ := row_shape (hS.row v23)
      refine sst hS rfl rfl Tryz.sizeOf39 rfl rfl rfl rfl ?_; clear hS; intro w hS
      refine nil ?_
      refine ⟨fun _ => (hS.at b7), ?_⟩
      show wpA _ _ _ _ _ _ _ _ _ _
      refine f_step 14 (by kernel_rfl) rfl (fun c a a' w h => by obtain ⟨_, v, hv, _⟩ := h; cases hv) (hS.at b7) (fun w hS => (fa41_1 h5)) ?_
      show wpA _ _ _ _ _ _ _ _ _ _
      refine a_step (i := 15) (is := []) (by kernel_rfl) ⟨?_, trivial⟩
      refine ⟨_, rfl, ?_⟩
      obtain ⟨a29, c29, rfl⟩ := row_shape (hS.row v29)
      refine sst hS rfl rfl Tryz.sizeOf39 rfl rfl rfl rfl ?_; clear hS; intro w hS
      refine nil ?_
      refine ⟨fun _ => (hS.at b7), ?_⟩
      show wpA _ _ _ _ _ _ _ _ _ _
      refine a_end (by kernel_rfl) ?_
      show Code.wp _ _ _ _ _
      refine region ?_
      refine sv (yAdd h14 rfl ⟨by omega, by omega⟩) ?_
      refine sv (yMove rfl) ?_
      refine nil ?_
      exact ⟨_, _, rfl, ⟨k + 1, _, _, h0, h4, h5, h12, h13, rfl, (by rw [take_snoc (show (losS l)[k]? = some (spn l k).lo by simp [losS, spn_get hkl]), take_snoc (show (hisS l)[k]? = some (spn l k).hi by simp [hisS, spn_get hkl]), List.flatMap_append, List.flatMap_append]; first | exact hS.sub (.cons _ (.cons _ (.cons _ (List.Sublist.refl _)))) | exact (hS.sub (.cons _ (.cons _ (.cons _ (List.Sublist.refl _))))).perm (List.Perm.swap _ _ _)), (by omega), rfl⟩, by omega⟩
    ·
     refine ⟨_, rfl, ?_⟩
     refine sbslice hS Tryz.underlying39 Tryz.sizeOf3 rfl Tryz.zeroValue3 rfl (.cons rfl rfl .nil) rfl ?_; clear hS; intro b28 w hS
     refine nil ?_
     refine ⟨fun _ => (hS.at b7), ?_⟩
     show wpA _ _ _ _ _ _ _ _ _ _
     show wpA _ _ _ _ _ _ _ _ _ _
     refine a_step (i := 4) (is := []) (by kernel_rfl) ⟨?_, trivial⟩
     refine ⟨_, rfl, ?_⟩
     refine sbslice hS Tryz.underlying39 Tryz.sizeOf3 rfl Tryz.zeroValue3 rfl (.cons rfl rfl .nil) rfl ?_; clear hS; intro b22 w hS
     refine nil ?_
     refine ⟨fun _ => (hS.at b7), ?_⟩
     show wpA _ _ _ _ _ _ _ _ _ _
     show wpA _ _ _ _ _ _ _ _ _ _
     refine a_step (i := 5) (is := []) (by kernel_rfl) ⟨?_, trivial⟩
     refine ⟨_, rfl, ?_⟩
     refine sapp (bytes := 8) (size := 1) (v := lv) (m := 1) hS rfl rfl Tryz.underlying39 ti3 rfl rfl rfl rfl (by decide) (blk_cells (hS.at _)) rfl rfl (by omega) (by omega) ?_; clear hS; intro v23 w hS
     refine nil ?_
     refine ⟨fun _ => (hS.at b7), ?_⟩
     show wpA _ _ _ _ _ _ _ _ _ _
     refine f_step 12 (by kernel_rfl) rfl (fun c a a' w h => by obtain ⟨_, v, hv, _⟩ := h; cases hv) (hS.at b7) (fun w hS => (fa41_1 h4)) ?_
     show wpA _ _ _ _ _ _ _ _ _ _
     refine a_step (i := 11) (is := []) (by kernel_rfl) ⟨?_, trivial⟩
     refine ⟨_, rfl, ?_⟩
     refine sapp (bytes := 8) (size := 1) (v := hv) (m := 1) hS rfl rfl Tryz.underlying39 ti3 rfl rfl rfl rfl (by decide) (blk_cells (hS.at _)) rfl rfl (by omega) (by omega) ?_; clear hS; intro v29 w hS
     refine nil ?_
     refine ⟨fun _ => (hS.at b7), ?_⟩
     show wpA _ _ _ _ _ _ _ _ _ _
     show wpA _ _ _ _ _ _ _ _ _ _
     refine a_step (i := 13) (is := []) (by kernel_rfl) ⟨?_, trivial⟩
     refine ⟨_, rfl, ?_⟩
     obtain ⟨a23, c23, rfl⟩ := row_shape (hS.row v23)
     refine sst hS rfl rfl Tryz.sizeOf39 rfl rfl rfl rfl ?_; clear hS; intro w hS
     refine nil ?_
     refine ⟨fun _ => (hS.at b7), ?_⟩
     show wpA _ _ _ _ _ _ _ _ _ _
     refine f_step 14 (by kernel_rfl) rfl (fun c a a' w h => by obtain ⟨_, v, hv, _⟩ := h; cases hv) (hS.at b7) (fun w hS => (fa41_1 h5)) ?_
     show wpA _ _ _ _ _ _ _ _ _ _
     refine a_step (i := 15) (is := []) (by kernel_rfl) ⟨?_, trivial⟩
     refine ⟨_, rfl, ?_⟩
     obtain ⟨a29, c29, rfl⟩ := row_shape (hS.row v29)
     refine sst hS rfl rfl Tryz.sizeOf39 rfl rfl rfl rfl ?_; clear hS; intro w hS
     refine nil ?_
     refine ⟨fun _ => (hS.at b7), ?_⟩
     show wpA _ _ _ _ _ _ _ _ _ _
     refine a_end (by kernel_rfl) ?_
     show Code.wp _ _ _ _ _
     refine region ?_
     refine sv (yAdd h14 rfl ⟨by omega, by omega⟩) ?_
     refine sv (yMove rfl) ?_
     refine nil ?_
     exact ⟨_, _, rfl, ⟨k + 1, _, _, h0, h4, h5, h12, h13, rfl, (by rw [take_snoc (show (losS l)[k]? = some (spn l k).lo by simp [losS, spn_get hkl]), take_snoc (show (hisS l)[k]? = some (spn l k).hi by simp [hisS, spn_get hkl]), List.flatMap_append, List.flatMap_append]; first | exact hS.sub (.cons _ (.cons _ (.cons _ (List.Sublist.refl _)))) | exact (hS.sub (.cons _ (.cons _ (.cons _ (List.Sublist.refl _))))).perm (List.Perm.swap _ _ _)), (by omega), rfl⟩, by omega⟩
   ·
    refine ⟨_, rfl, ?_⟩
    refine sbslice hS Tryz.underlying39 Tryz.sizeOf3 rfl Tryz.zeroValue3 rfl (.cons rfl rfl .nil) rfl ?_; clear hS; intro b28 w hS
    refine nil ?_
    refine ⟨fun _ => (hS.at b7), ?_⟩
    show wpA _ _ _ _ _ _ _ _ _ _
    show wpA _ _ _ _ _ _ _ _ _ _
    refine a_step (i := 4) (is := [7]) (by kernel_rfl) ⟨?_, ?_, trivial⟩
    ·
     refine ⟨_, rfl, ?_⟩
     refine sbslice hS Tryz.underlying39 Tryz.sizeOf3 rfl Tryz.zeroValue3 rfl (.cons rfl rfl .nil) rfl ?_; clear hS; intro b22 w hS
     refine nil ?_
     refine ⟨fun _ => (hS.at b7), ?_⟩
     show wpA _ _ _ _ _ _ _ _ _ _
     show wpA _ _ _ _ _ _ _ _ _ _
     refine a_step (i := 5) (is := [7]) (by kernel_rfl) ⟨?_, ?_, trivial⟩
     ·
      refine ⟨_, rfl, ?_⟩
      refine sapp (bytes := 8) (size := 1) (v := lv) (m := 1) hS rfl rfl Tryz.underlying39 ti3 rfl rfl rfl rfl (by decide) (blk_cells (hS.at _)) rfl rfl (by omega) (by omega) ?_; clear hS; intro v23 w hS
      refine nil ?_
      refine ⟨fun _ => (hS.at b7), ?_⟩
      show wpA _ _ _ _ _ _ _ _ _ _
      refine f_step 12 (by kernel_rfl) rfl (fun c a a' w h => by obtain ⟨_, v, hv, _⟩ := h; cases hv) (hS.at b7) (fun w hS => (fa41_1 h4)) ?_
      show wpA _ _ _ _ _ _ _ _ _ _
      refine a_step (i := 7) (is := []) (by kernel_rfl) ⟨?_, trivial⟩
      refine ⟨_, rfl, ?_⟩
      refine sv (yLdB rfl Tryz.isAgg39 (hS.at _) rfl) ?_
      refine nil ?_
      refine ⟨fun _ => (hS.at b7), ?_⟩
      show wpA _ _ _ _ _ _ _ _ _ _
      show wpA _ _ _ _ _ _ _ _ _ _
      refine a_step (i := 11) (is := []) (by kernel_rfl) ⟨?_, trivial⟩
      refine ⟨_, rfl, ?_⟩
      refine sapp (bytes := 8) (size := 1) (v := hv) (m := 1) hS rfl rfl Tryz.underlying39 ti3 rfl rfl rfl rfl (by decide) (blk_cells (hS.at _)) rfl rfl (by omega) (by omega) ?_; clear hS; intro v29 w hS
      refine nil ?_
      refine ⟨fun _ => (hS.at b7), ?_⟩
      show wpA _ _ _ _ _ _ _ _ _ _
      show wpA _ _ _ _ _ _ _ _ _ _
      refine a_step (i := 13) (is := []) (by kernel_rfl) ⟨?_, trivial⟩
      refine ⟨_, rfl, ?_⟩
      obtain ⟨a23, c23, rfl⟩ := row_shape (hS.row v23)
      refine sst hS rfl rfl Tryz.sizeOf39 rfl rfl rfl rfl ?_; clear hS; intro w hS
      refine nil ?_
      refine ⟨fun _ => (hS.at b7), ?_⟩
      show wpA _ _ _ _ _ _ _ _ _ _
      refine f_step 14 (by kernel_rfl) rfl (fun c a a' w h => by obtain ⟨_, v, hv, _⟩ := h; cases hv) (hS.at b7) (fun w hS => (fa41_1 h5)) ?_
      show wpA _ _ _ _ _ _ _ _ _ _
      refine a_step (i := 15) (is := []) (by kernel_rfl) ⟨?_, trivial⟩
      refine ⟨_, rfl, ?_⟩
      obtain ⟨a29, c29, rfl⟩ := row_shape (hS.row v29)
      refine sst hS rfl rfl Tryz.sizeOf39 rfl rfl rfl rfl ?_; clear hS; intro w hS
      refine nil ?_
      refine ⟨fun _ => (hS.at b7), ?_⟩
      show wpA _ _ _ _ _ _ _ _ _ _
      refine a_end (by kernel_rfl) ?_
      show Code.wp _ _ _ _ _
      refine region ?_
      refine sv (yAdd h14 rfl ⟨by omega, by omega⟩) ?_
      refine sv (yMove rfl) ?_
      refine nil ?_
      exact ⟨_, _, rfl, ⟨k + 1, _, _, h0, h4, h5, h12, h13, rfl, (by rw [take_snoc (show (losS l)[k]? = some (spn l k).lo by simp [losS, spn_get hkl]), take_snoc (show (hisS l)[k]? = some (spn l k).hi by simp [hisS, spn_get hkl]), List.flatMap_append, List.flatMap_append]; first | exact hS.sub (.cons _ (.cons _ (.cons _ (List.Sublist.refl _)))) | exact (hS.sub (.cons _ (.cons _ (.cons _ (List.Sublist.refl _))))).perm (List.Perm.swap _ _ _)), (by omega), rfl⟩, by omega⟩
     ·
      refine ⟨_, rfl, ?_⟩
      refine sv (yLdB rfl Tryz.isAgg39 (hS.at _) rfl) ?_
      refine nil ?_
      refine ⟨fun _ => (hS.at b7), ?_⟩
      show wpA _ _ _ _ _ _ _ _ _ _
      show wpA _ _ _ _ _ _ _ _ _ _
      refine a_step (i := 5) (is := []) (by kernel_rfl) ⟨?_, trivial⟩
      refine ⟨_, rfl, ?_⟩
      refine sapp (bytes := 8) (size := 1) (v := lv) (m := 1) hS rfl rfl Tryz.underlying39 ti3 rfl rfl rfl rfl (by decide) (blk_cells (hS.at _)) rfl rfl (by omega) (by omega) ?_; clear hS; intro v23 w hS
      refine nil ?_
      refine ⟨fun _ => (hS.at b7), ?_⟩
      show wpA _ _ _ _ _ _ _ _ _ _
      refine f_step 12 (by kernel_rfl) rfl (fun c a a' w h => by obtain ⟨_, v, hv, _⟩ := h; cases hv) (hS.at b7) (fun w hS => (fa41_1 h4)) ?_
      show wpA _ _ _ _ _ _ _ _ _ _
      refine a_step (i := 11) (is := []) (by kernel_rfl) ⟨?_, trivial⟩
      refine ⟨_, rfl, ?_⟩
      refine sapp (bytes := 8) (size := 1) (v := hv) (m := 1) hS rfl rfl Tryz.underlying39 ti3 rfl rfl rfl rfl (by decide) (blk_cells (hS.at _)) rfl rfl (by omega) (by omega) ?_; clear hS; intro v29 w hS
      refine nil ?_
      refine ⟨fun _ => (hS.at b7), ?_⟩
      show wpA _ _ _ _ _ _ _ _ _ _
      show wpA _ _ _ _ _ _ _ _ _ _
      refine a_step (i := 13) (is := []) (by kernel_rfl) ⟨?_, trivial⟩
      refine ⟨_, rfl, ?_⟩
      obtain ⟨a23, c23, rfl⟩ := row_shape (hS.row v23)
      refine sst hS rfl rfl Tryz.sizeOf39 rfl rfl rfl rfl ?_; clear hS; intro w hS
      refine nil ?_
      refine ⟨fun _ => (hS.at b7), ?_⟩
      show wpA _ _ _ _ _ _ _ _ _ _
      refine f_step 14 (by kernel_rfl) rfl (fun c a a' w h => by obtain ⟨_, v, hv, _⟩ := h; cases hv) (hS.at b7) (fun w hS => (fa41_1 h5)) ?_
      show wpA _ _ _ _ _ _ _ _ _ _
      refine a_step (i := 15) (is := []) (by kernel_rfl) ⟨?_, trivial⟩
      refine ⟨_, rfl, ?_⟩
      obtain ⟨a29, c29, rfl⟩ := row_shape (hS.row v29)
      refine sst hS rfl rfl Tryz.sizeOf39 rfl rfl rfl rfl ?_; clear hS; intro w hS
      refine nil ?_
      refine ⟨fun _ => (hS.at b7), ?_⟩
      show wpA _ _ _ _ _ _ _ _ _ _
      refine a_end (by kernel_rfl) ?_
      show Code.wp _ _ _ _ _
      refine region ?_
      refine sv (yAdd h14 rfl ⟨by omega, by omega⟩) ?_
      refine sv (yMove rfl) ?_
      refine nil ?_
      exact ⟨_, _, rfl, ⟨k + 1, _, _, h0, h4, h5, h12, h13, rfl, (by rw [take_snoc (show (losS l)[k]? = some (spn l k).lo by simp [losS, spn_get hkl]), take_snoc (show (hisS l)[k]? = some (spn l k).hi by simp [hisS, spn_get hkl]), List.flatMap_append, List.flatMap_append]; first | exact hS.sub (.cons _ (.cons _ (.cons _ (List.Sublist.refl _)))) | exact (hS.sub (.cons _ (.cons _ (.cons _ (List.Sublist.refl _))))).perm (List.Perm.swap _ _ _)), (by omega), rfl⟩, by omega⟩
    ·
     refine ⟨_, rfl, ?_⟩
     refine sv (yLdB rfl Tryz.isAgg39 (hS.at _) rfl) ?_
     refine nil ?_
     refine ⟨fun _ => (hS.at b7), ?_⟩
     show wpA _ _ _ _ _ _ _ _ _ _
     show wpA _ _ _ _ _ _ _ _ _ _
     refine a_step (i := 4) (is := []) (by kernel_rfl) ⟨?_, trivial⟩
     refine ⟨_, rfl, ?_⟩
     refine sbslice hS Tryz.underlying39 Tryz.sizeOf3 rfl Tryz.zeroValue3 rfl (.cons rfl rfl .nil) rfl ?_; clear hS; intro b22 w hS
     refine nil ?_
     refine ⟨fun _ => (hS.at b7), ?_⟩
     show wpA _ _ _ _ _ _ _ _ _ _
     show wpA _ _ _ _ _ _ _ _ _ _
     refine a_step (i := 5) (is := []) (by kernel_rfl) ⟨?_, trivial⟩
     refine ⟨_, rfl, ?_⟩
     refine sapp (bytes := 8) (size := 1) (v := lv) (m := 1) hS rfl rfl Tryz.underlying39 ti3 rfl rfl rfl rfl (by decide) (blk_cells (hS.at _)) rfl rfl (by omega) (by omega) ?_; clear hS; intro v23 w hS
     refine nil ?_
     refine ⟨fun _ => (hS.at b7), ?_⟩
     show wpA _ _ _ _ _ _ _ _ _ _
     refine f_step 12 (by kernel_rfl) rfl (fun c a a' w h => by obtain ⟨_, v, hv, _⟩ := h; cases hv) (hS.at b7) (fun w hS => (fa41_1 h4)) ?_
     show wpA _ _ _ _ _ _ _ _ _ _
     refine a_step (i := 11) (is := []) (by kernel_rfl) ⟨?_, trivial⟩
     refine ⟨_, rfl, ?_⟩
     refine sapp (bytes := 8) (size := 1) (v := hv) (m := 1) hS rfl rfl Tryz.underlying39 ti3 rfl rfl rfl rfl (by decide) (blk_cells (hS.at _)) rfl rfl (by omega) (by omega) ?_; clear hS; intro v29 w hS
     refine nil ?_
     refine ⟨fun _ => (hS.at b7), ?_⟩
     show wpA _ _ _ _ _ _ _ _ _ _
     show wpA _ _ _ _ _ _ _ _ _ _
     refine a_step (i := 13) (is := []) (by kernel_rfl) ⟨?_, trivial⟩
     refine ⟨_, rfl, ?_⟩
     obtain ⟨a23, c23, rfl⟩ := row_shape (hS.row v23)
     refine sst hS rfl rfl Tryz.sizeOf39 rfl rfl rfl rfl ?_; clear hS; intro w hS
     refine nil ?_
     refine ⟨fun _ => (hS.at b7), ?_⟩
     show wpA _ _ _ _ _ _ _ _ _ _
     refine f_step 14 (by kernel_rfl) rfl (fun c a a' w h => by obtain ⟨_, v, hv, _⟩ := h; cases hv) (hS.at b7) (fun w hS => (fa41_1 h5)) ?_
     show wpA _ _ _ _ _ _ _ _ _ _
     refine a_step (i := 15) (is := []) (by kernel_rfl) ⟨?_, trivial⟩
     refine ⟨_, rfl, ?_⟩
     obtain ⟨a29, c29, rfl⟩ := row_shape (hS.row v29)
     refine sst hS rfl rfl Tryz.sizeOf39 rfl rfl rfl rfl ?_; clear hS; intro w hS
     refine nil ?_
     refine ⟨fun _ => (hS.at b7), ?_⟩
     show wpA _ _ _ _ _ _ _ _ _ _
     refine a_end (by kernel_rfl) ?_
     show Code.wp _ _ _ _ _
     refine region ?_
     refine sv (yAdd h14 rfl ⟨by omega, by omega⟩) ?_
     refine sv (yMove rfl) ?_
     refine nil ?_
     exact ⟨_, _, rfl, ⟨k + 1, _, _, h0, h4, h5, h12, h13, rfl, (by rw [take_snoc (show (losS l)[k]? = some (spn l k).lo by simp [losS, spn_get hkl]), take_snoc (show (hisS l)[k]? = some (spn l k).hi by simp [hisS, spn_get hkl]), List.flatMap_append, List.flatMap_append]; first | exact hS.sub (.cons _ (.cons _ (.cons _ (List.Sublist.refl _)))) | exact (hS.sub (.cons _ (.cons _ (.cons _ (List.Sublist.refl _))))).perm (List.Perm.swap _ _ _)), (by omega), rfl⟩, by omega⟩
  ·
   refine ⟨_, rfl, ?_⟩
   refine sbslice hS Tryz.underlying39 Tryz.sizeOf3 rfl Tryz.zeroValue3 rfl (.cons rfl rfl .nil) rfl ?_; clear hS; intro b22 w hS
   refine nil ?_
   refine ⟨fun _ => (hS.at b7), ?_⟩
   show wpA _ _ _ _ _ _ _ _ _ _
   show wpA _ _ _ _ _ _ _ _ _ _
   refine a_step (i := 1) (is := [7, 10]) (by kernel_rfl) ⟨?_, ?_, ?_, trivial⟩
   ·
    refine ⟨_, rfl, ?_⟩
    refine sv (yLdB rfl Tryz.isAgg39 (hS.at _) rfl) ?_
    refine nil ?_
    refine ⟨fun _ => (hS.at b7), ?_⟩
    show wpA _ _ _ _ _ _ _ _ _ _
    show wpA _ _ _ _ _ _ _ _ _ _
    refine a_step (i := 5) (is := [7, 10]) (by kernel_rfl) ⟨?_, ?_, ?_, trivial⟩
    ·
     refine ⟨_, rfl, ?_⟩
     refine sapp (bytes := 8) (size := 1) (v := lv) (m := 1) hS rfl rfl Tryz.underlying39 ti3 rfl rfl rfl rfl (by decide) (blk_cells (hS.at _)) rfl rfl (by omega) (by omega) ?_; clear hS; intro v23 w hS
     refine nil ?_
     refine ⟨fun _ => (hS.at b7), ?_⟩
     show wpA _ _ _ _ _ _ _ _ _ _
     refine f_step 12 (by kernel_rfl) rfl (fun c a a' w h => by obtain ⟨_, v, hv, _⟩ := h; cases hv) (hS.at b7) (fun w hS => (fa41_1 h4)) ?_
     show wpA _ _ _ _ _ _ _ _ _ _
     refine a_step (i := 7) (is := [10]) (by kernel_rfl) ⟨?_, ?_, trivial⟩
     ·
      refine ⟨_, rfl, ?_⟩
      refine sv (yLdB rfl Tryz.isAgg39 (hS.at _) rfl) ?_
      refine nil ?_
      refine ⟨fun _ => (hS.at b7), ?_⟩
      show wpA _ _ _ _ _ _ _ _ _ _
      show wpA _ _ _ _ _ _ _ _ _ _
      refine a_step (i := 10) (is := []) (by kernel_rfl) ⟨?_, trivial⟩
      refine ⟨_, rfl, ?_⟩
      refine sbslice hS Tryz.underlying39 Tryz.sizeOf3 rfl Tryz.zeroValue3 rfl (.cons rfl rfl .nil) rfl ?_; clear hS; intro b28 w hS
      refine nil ?_
      refine ⟨fun _ => (hS.at b7), ?_⟩
      show wpA _ _ _ _ _ _ _ _ _ _
      show wpA _ _ _ _ _ _ _ _ _ _
      refine a_step (i := 11) (is := []) (by kernel_rfl) ⟨?_, trivial⟩
      refine ⟨_, rfl, ?_⟩
      refine sapp (bytes := 8) (size := 1) (v := hv) (m := 1) hS rfl rfl Tryz.underlying39 ti3 rfl rfl rfl rfl (by decide) (blk_cells (hS.at _)) rfl rfl (by omega) (by omega) ?_; clear hS; intro v29 w hS
      refine nil ?_
      refine ⟨fun _ => (hS.at b7), ?_⟩
      show wpA _ _ _ _ _ _ _ _ _ _
      show wpA _ _ _ _ _ _ _ _ _ _
      refine a_step (i := 13) (is := []) (by kernel_rfl) ⟨?_, trivial⟩
      refine ⟨_, rfl, ?_⟩
      obtain ⟨a23, c23, rfl⟩ := row_shape (hS.row v23)
      refine sst hS rfl rfl Tryz.sizeOf39 rfl rfl rfl rfl ?_; clear hS; intro w hS
      refine nil ?_
      refine ⟨fun _ => (hS.at b7), ?_⟩
      show wpA _ _ _ _ _ _ _ _ _ _
      refine f_step 14 (by kernel_rfl) rfl (fun c a a' w h => by obtain ⟨_, v, hv, _⟩ := h; cases hv) (hS.at b7) (fun w hS => (fa41_1 h5)) ?_
      show wpA _ _ _ _ _ _ _ _ _ _
      refine a_step (i := 15) (is := []) (by kernel_rfl) ⟨?_, trivial⟩
      refine ⟨_, rfl, ?_⟩
      obtain ⟨a29, c29, rfl⟩ := row_shape (hS.row v29)
      refine sst hS rfl rfl Tryz.sizeOf39 rfl rfl rfl rfl ?_; clear hS; intro w hS
      refine nil ?_
      refine ⟨fun _ => (hS.at b7), ?_⟩
      show wpA _ _ _ _ _ _ _ _ _ _
      refine a_end (by kernel_rfl) ?_
      show Code.wp _ _ _ _ _
      refine region ?_
      refine sv (yAdd h14 rfl ⟨by omega, by omega⟩) ?_
      refine sv (yMove rfl) ?_
      refine nil ?_
      exact ⟨_, _, rfl, ⟨k + 1, _, _, h0, h4, h5, h12, h13, rfl, (by rw [take_snoc (show (losS l)[k]? = some (spn l k).lo by simp [losS, spn_get hkl]), take_snoc (show (hisS l)[k]? = some (spn l k).hi by simp [hisS, spn_get hkl]), List.flatMap_append, List.flatMap_append]; first | exact hS.sub (.cons _ (.cons _ (.cons _ (List.Sublist.refl _)))) | exact (hS.sub (.cons _ (.cons _ (.cons _ (List.Sublist.refl _))))).perm (List.Perm.swap _ _ _)), (by omega), rfl⟩, by omega⟩
     ·
      refine ⟨_, rfl, ?_⟩
      refine sbslice hS Tryz.underlying39 Tryz.sizeOf3 rfl Tryz.zeroValue3 rfl (.cons rfl rfl .nil) rfl ?_; clear hS; intro b28 w hS
      refine nil ?_
      refine ⟨fun _ => (hS.at b7), ?_⟩
      show wpA _ _ _ _ _ _ _ _ _ _
      show wpA _ _ _ _ _ _ _ _ _ _
      refine a_step (i := 7) (is := []) (by kernel_rfl) ⟨?_, trivial⟩
      refine ⟨_, rfl, ?_⟩
      refine sv (yLdB rfl Tryz.isAgg39 (hS.at _) rfl) ?_
      refine nil ?_
      refine ⟨fun _ => (hS.at b7), ?_⟩
      show wpA _ _ _ _ _ _ _ _ _ _
      show wpA _ _ _ _ _ _ _ _ _ _
      refine a_step (i := 11) (is := []) (by kernel_rfl) ⟨?_, trivial⟩
      refine ⟨_, rfl, ?_⟩
      refine sapp (bytes := 8) (size := 1) (v := hv) (m := 1) hS rfl rfl Tryz.underlying39 ti3 rfl rfl rfl rfl (by decide) (blk_cells (hS.at _)) rfl rfl (by omega) (by omega) ?_; clear hS; intro v29 w hS
      refine nil ?_
      refine ⟨fun _ => (hS.at b7), ?_⟩
      show wpA _ _ _ _ _ _ _ _ _ _
      show wpA _ _ _ _ _ _ _ _ _ _
      refine a_step (i := 13) (is := []) (by kernel_rfl) ⟨?_, trivial⟩
      refine ⟨_, rfl, ?_⟩
      obtain ⟨a23, c23, rfl⟩ := row_shape (hS.row v23)
      refine sst hS rfl rfl Tryz.sizeOf39 rfl rfl rfl rfl ?_; clear hS; intro w hS
      refine nil ?_
      refine ⟨fun _ => (hS.at b7), ?_⟩
      show wpA _ _ _ _ _ _ _ _ _ _
      refine f_step 14 (by kernel_rfl) rfl (fun c a a' w h => by obtain ⟨_, v, hv, _⟩ := h; cases hv) (hS.at b7) (fun w hS => (fa41_1 h5)) ?_
      show wpA _ _ _ _ _ _ _ _ _ _
      refine a_step (i := 15) (is := []) (by kernel_rfl) ⟨?_, trivial⟩
      refine ⟨_, rfl, ?_⟩
      obtain ⟨a29, c29, rfl⟩ := row_shape (hS.row v29)
      refine sst hS rfl rfl Tryz.sizeOf39 rfl rfl rfl rfl ?_; clear hS; intro w hS
      refine nil ?_
      refine ⟨fun _ => (hS.at b7), ?_⟩
      show wpA _ _ _ _ _ _ _ _ _ _
      refine a_end (by kernel_rfl) ?_
      show Code.wp _ _ _ _ _
      refine region ?_
      refine sv (yAdd h14 rfl ⟨by omega, by omega⟩) ?_
      refine sv (yMove rfl) ?_
      refine nil ?_
      exact ⟨_, _, rfl, ⟨k + 1, _, _, h0, h4, h5, h12, h13, rfl, (by rw [take_snoc (show (losS l)[k]? = some (spn l k).lo by simp [losS, spn_get hkl]), take_snoc (show (hisS l)[k]? = some (spn l k).hi by simp [hisS, spn_get hkl]), List.flatMap_append, List.flatMap_append]; first | exact hS.sub (.cons _ (.cons _ (.cons _ (List.Sublist.refl _)))) | exact (hS.sub (.cons _ (.cons _ (.cons _ (List.Sublist.refl _))))).perm (List.Perm.swap _ _ _)), (by omega), rfl⟩, by omega⟩
    ·
     refine ⟨_, rfl, ?_⟩
     refine sv (yLdB rfl Tryz.isAgg39 (hS.at _) rfl) ?_
     refine nil ?_
     refine ⟨fun _ => (hS.at b7), ?_⟩
     show wpA _ _ _ _ _ _ _ _ _ _
     show wpA _ _ _ _ _ _ _ _ _ _
     refine a_step (i := 5) (is := [10]) (by kernel_rfl) ⟨?_, ?_, trivial⟩
     ·
      refine ⟨_, rfl, ?_⟩
      refine sapp (bytes := 8) (size := 1) (v := lv) (m := 1) hS rfl rfl Tryz.underlying39 ti3 rfl rfl rfl rfl (by decide) (blk_cells (hS.at _)) rfl rfl (by omega) (by omega) ?_; clear hS; intro v23 w hS
      refine nil ?_
      refine ⟨fun _ => (hS.at b7), ?_⟩
      show wpA _ _ _ _ _ _ _ _ _ _
      refine f_step 12 (by kernel_rfl) rfl (fun c a a' w h => by obtain ⟨_, v, hv, _⟩ := h; cases hv) (hS.at b7) (fun w hS => (fa41_1 h4)) ?_
      show wpA _ _ _ _ _ _ _ _ _ _
      refine a_step (i := 10) (is := []) (by kernel_rfl) ⟨?_, trivial⟩
      refine ⟨_, rfl, ?_⟩
      refine sbslice hS Tryz.underlying39 Tryz.sizeOf3 rfl Tryz.zeroValue3 rfl (.cons rfl rfl .nil) rfl ?_; clear hS; intro b28 w hS
      refine nil ?_
      refine ⟨fun _ => (hS.at b7), ?_⟩
      show wpA _ _ _ _ _ _ _ _ _ _
      show wpA _ _ _ _ _ _ _ _ _ _
      refine a_step (i := 11) (is := []) (by kernel_rfl) ⟨?_, trivial⟩
      refine ⟨_, rfl, ?_⟩
      refine sapp (bytes := 8) (size := 1) (v := hv) (m := 1) hS rfl rfl Tryz.underlying39 ti3 rfl rfl rfl rfl (by decide) (blk_cells (hS.at _)) rfl rfl (by omega) (by omega) ?_; clear hS; intro v29 w hS
      refine nil ?_
      refine ⟨fun _ => (hS.at b7), ?_⟩
      show wpA _ _ _ _ _ _ _ _ _ _
      show wpA _ _ _ _ _ _ _ _ _ _
      refine a_step (i := 13) (is := []) (by kernel_rfl) ⟨?_, trivial⟩
      refine ⟨_, rfl, ?_⟩
      obtain ⟨a23, c23, rfl⟩ := row_shape (hS.row v23)
      refine sst hS rfl rfl Tryz.sizeOf39 rfl rfl rfl rfl ?_; clear hS; intro w hS
      refine nil ?_
      refine ⟨fun _ => (hS.at b7), ?_⟩
      show wpA _ _ _ _ _ _ _ _ _ _
      refine f_step 14 (by kernel_rfl) rfl (fun c a a' w h => by obtain ⟨_, v, hv, _⟩ := h; cases hv) (hS.at b7) (fun w hS => (fa41_1 h5)) ?_
      show wpA _ _ _ _ _ _ _ _ _ _
      refine a_step (i := 15) (is := []) (by kernel_rfl) ⟨?_, trivial⟩
      refine ⟨_, rfl, ?_⟩
      obtain ⟨a29, c29, rfl⟩ := row_shape (hS.row v29)
      refine sst hS rfl rfl Tryz.sizeOf39 rfl rfl rfl rfl ?_; clear hS; intro w hS
      refine nil ?_
      refine ⟨fun _ => (hS.at b7), ?_⟩
      show wpA _ _ _ _ _ _ _ _ _ _
      refine a_end (by kernel_rfl) ?_
      show Code.wp _ _ _ _ _
      refine region ?_
      refine sv (yAdd h14 rfl ⟨by omega, by omega⟩) ?_
      refine sv (yMove rfl) ?_
      refine nil ?_
      exact ⟨_, _, rfl, ⟨k + 1, _, _, h0, h4, h5, h12, h13, rfl, (by rw [take_snoc (show (losS l)[k]? = some (spn l k).lo by simp [losS, spn_get hkl]), take_snoc (show (hisS l)[k]? = some (spn l k).hi by simp [hisS, spn_get hkl]), List.flatMap_append, List.flatMap_append]; first | exact hS.sub (.cons _ (.cons _ (.cons _ (List.Sublist.refl _)))) | exact (hS.sub (.cons _ (.cons _ (.cons _ (List.Sublist.refl _))))).perm (List.Perm.swap _ _ _)), (by omega), rfl⟩, by omega⟩
     ·
      refine ⟨_, rfl, ?_⟩
      refine sbslice hS Tryz.underlying39 Tryz.sizeOf3 rfl Tryz.zeroValue3 rfl (.cons rfl rfl .nil) rfl ?_; clear hS; intro b28 w hS
      refine nil ?_
      refine ⟨fun _ => (hS.at b7), ?_⟩
      show wpA _ _ _ _ _ _ _ _ _ _
      show wpA _ _ _ _ _ _ _ _ _ _
      refine a_step (i := 5) (is := []) (by kernel_rfl) ⟨?_, trivial⟩
      refine ⟨_, rfl, ?_⟩
      refine sapp (bytes := 8) (size := 1) (v := lv) (m := 1) hS rfl rfl Tryz.underlying39 ti3 rfl rfl rfl rfl (by decide) (blk_cells (hS.at _)) rfl rfl (by omega) (by omega) ?_; clear hS; intro v23 w hS
      refine nil ?_
      refine ⟨fun _ => (hS.at b7), ?_⟩
      show wpA _ _ _ _ _ _ _ _ _ _
      refine f_step 12 (by kernel_rfl) rfl (fun c a a' w h => by obtain ⟨_, v, hv, _⟩ := h; cases hv) (hS.at b7) (fun w hS => (fa41_1 h4)) ?_
      show wpA _ _ _ _ _ _ _ _ _ _
      refine a_step (i := 11) (is := []) (by kernel_rfl) ⟨?_, trivial⟩
      refine ⟨_, rfl, ?_⟩
      refine sapp (bytes := 8) (size := 1) (v := hv) (m := 1) hS rfl rfl Tryz.underlying39 ti3 rfl rfl rfl rfl (by decide) (blk_cells (hS.at _)) rfl rfl (by omega) (by omega) ?_; clear hS; intro v29 w hS
      refine nil ?_
      refine ⟨fun _ => (hS.at b7), ?_⟩
      show wpA _ _ _ _ _ _ _ _ _ _
      show wpA _ _ _ _ _ _ _ _ _ _
      refine a_step (i := 13) (is := []) (by kernel_rfl) ⟨?_, trivial⟩
      refine ⟨_, rfl, ?_⟩
      obtain ⟨a23, c23, rfl⟩ := row_shape (hS.row v23)
      refine sst hS rfl rfl Tryz.sizeOf39 rfl rfl rfl rfl ?_; clear hS; intro w hS
      refine nil ?_
      refine ⟨fun _ => (hS.at b7), ?_⟩
      show wpA _ _ _ _ _ _ _ _ _ _
      refine f_step 14 (by kernel_rfl) rfl (fun c a a' w h => by obtain ⟨_, v, hv, _⟩ := h; cases hv) (hS.at b7) (fun w hS => (fa41_1 h5)) ?_
      show wpA _ _ _ _ _ _ _ _ _ _
      refine a_step (i := 15) (is := []) (by kernel_rfl) ⟨?_, trivial⟩
      refine ⟨_, rfl, ?_⟩
      obtain ⟨a29, c29, rfl⟩ := row_shape (hS.row v29)
      refine sst hS rfl rfl Tryz.sizeOf39 rfl rfl rfl rfl ?_; clear hS; intro w hS
      refine nil ?_
      refine ⟨fun _ => (hS.at b7), ?_⟩
      show wpA _ _ _ _ _ _ _ _ _ _
      refine a_end (by kernel_rfl) ?_
      show Code.wp _ _ _ _ _
      refine region ?_
      refine sv (yAdd h14 rfl ⟨by omega, by omega⟩) ?_
      refine sv (yMove rfl) ?_
      refine nil ?_
      exact ⟨_, _, rfl, ⟨k + 1, _, _, h0, h4, h5, h12, h13, rfl, (by rw [take_snoc (show (losS l)[k]? = some (spn l k).lo by simp [losS, spn_get hkl]), take_snoc (show (hisS l)[k]? = some (spn l k).hi by simp [hisS, spn_get hkl]), List.flatMap_append, List.flatMap_append]; first | exact hS.sub (.cons _ (.cons _ (.cons _ (List.Sublist.refl _)))) | exact (hS.sub (.cons _ (.cons _ (.cons _ (List.Sublist.refl _))))).perm (List.Perm.swap _ _ _)), (by omega), rfl⟩, by omega⟩
    ·
     refine ⟨_, rfl, ?_⟩
     refine sbslice hS Tryz.underlying39 Tryz.sizeOf3 rfl Tryz.zeroValue3 rfl (.cons rfl rfl .nil) rfl ?_; clear hS; intro b28 w hS
     refine nil ?_
     refine ⟨fun _ => (hS.at b7), ?_⟩
     show wpA _ _ _ _ _ _ _ _ _ _
     show wpA _ _ _ _ _ _ _ _ _ _
     refine a_step (i := 5) (is := [7]) (by kernel_rfl) ⟨?_, ?_, trivial⟩
     ·
      refine ⟨_, rfl, ?_⟩
      refine sapp (bytes := 8) (size := 1) (v := lv) (m := 1) hS rfl rfl Tryz.underlying39 ti3 rfl rfl rfl rfl (by decide) (blk_cells (hS.at _)) rfl rfl (by omega) (by omega) ?_; clear hS; intro v23 w hS
      refine nil ?_
      refine ⟨fun _ => (hS.at b7), ?_⟩
      show wpA _ _ _ _ _ _ _ _ _ _
      refine f_step 12 (by kernel_rfl) rfl (fun c a a' w h => by obtain ⟨_, v, hv, _⟩ := h; cases hv) (hS.at b7) (fun w hS => (fa41_1 h4)) ?_
      show wpA _ _ _ _ _ _ _ _ _ _
      refine a_step (i := 7) (is := []) (by kernel_rfl) ⟨?_, trivial⟩
      refine ⟨_, rfl, ?_⟩
      refine sv (yLdB rfl Tryz.isAgg39 (hS.at _) rfl) ?_
      refine nil ?_
      refine ⟨fun _ => (hS.at b7), ?_⟩
      show wpA _ _ _ _ _ _ _ _ _ _
      show wpA _ _ _ _ _ _ _ _ _ _
      refine a_step (i := 11) (is := []) (by kernel_rfl) ⟨?_, trivial⟩
      refine ⟨_, rfl, ?_⟩
      refine sapp (bytes := 8) (size := 1) (v := hv) (m := 1) hS rfl rfl Tryz.underlying39 ti3 rfl rfl rfl rfl (by decide) (blk_cells (hS.at _)) rfl rfl (by omega) (by omega) ?_; clear hS; intro v29 w hS
      refine nil ?_
      refine ⟨fun _ => (hS.at b7), ?_⟩
      show wpA _ _ _ _ _ _ _ _ _ _
      show wpA _ _ _ _ _ _ _ _ _ _
      refine a_step (i := 13) (is := []) (by kernel_rfl) ⟨?_, trivial⟩
      refine ⟨_, rfl, ?_⟩
      obtain ⟨a23, c23, rfl⟩ := row_shape (hS.row v23)
      refine sst hS rfl rfl Tryz.sizeOf39 rfl rfl rfl rfl ?_; clear hS; intro w hS
      refine nil ?_
      refine ⟨fun _ => (hS.at b7), ?_⟩
      show wpA _ _ _ _ _ _ _ _ _ _
      refine f_step 14 (by kernel_rfl) rfl (fun c a a' w h => by obtain ⟨_, v, hv, _⟩ := h; cases hv) (hS.at b7) (fun w hS => (fa41_1 h5)) ?_
      show wpA _ _ _ _ _ _ _ _ _ _
      refine a_step (i := 15) (is := []) (by kernel_rfl) ⟨?_, trivial⟩
      refine ⟨_, rfl, ?_⟩
      obtain ⟨a29, c29, rfl⟩ := row_shape (hS.row v29)
      refine sst hS rfl rfl Tryz.sizeOf39 rfl rfl rfl rfl ?_; clear hS; intro w hS
      refine nil ?_
      refine ⟨fun _ => (hS.at b7), ?_⟩
      show wpA _ _ _ _ _ _ _ _ _ _
      refine a_end (by kernel_rfl) ?_
      show Code.wp _ _ _ _ _
      refine region ?_
      refine sv (yAdd h14 rfl ⟨by omega, by omega⟩) ?_
      refine sv (yMove rfl) ?_
      refine nil ?_
      exact ⟨_, _, rfl, ⟨k + 1, _, _, h0, h4, h5, h12, h13, rfl, (by rw [take_snoc (show (losS l)[k]? = some (spn l k).lo by simp [losS, spn_get hkl]), take_snoc (show (hisS l)[k]? = some (spn l k).hi by simp [hisS, spn_get hkl]), List.flatMap_append, List.flatMap_append]; first | exact hS.sub (.cons _ (.cons _ (.cons _ (List.Sublist.refl _)))) | exact (hS.sub (.cons _ (.cons _ (.cons _ (List.Sublist.refl _))))).perm (List.Perm.swap _ _ _)), (by omega), rfl⟩, by omega⟩
     ·
      refine ⟨_, rfl, ?_⟩
      refine sv (yLdB rfl Tryz.isAgg39 (hS.at _) rfl) ?_
      refine nil ?_
      refine ⟨fun _ => (hS.at b7), ?_⟩
      show wpA _ _ _ _ _ _ _ _ _ _
      show wpA _ _ _ _ _ _ _ _ _ _
      refine a_step (i := 5) (is := []) (by kernel_rfl) ⟨?_, trivial⟩
      refine ⟨_, rfl, ?_⟩
      refine sapp (bytes := 8) (size := 1) (v := lv) (m := 1) hS rfl rfl Tryz.underlying39 ti3 rfl rfl rfl rfl (by decide) (blk_cells (hS.at _)) rfl rfl (by omega) (by omega) ?_; clear hS; intro v23 w hS
      refine nil ?_
      refine ⟨fun _ => (hS.at b7), ?_⟩
      show wpA _ _ _ _ _ _ _ _ _ _
      refine f_step 12 (by kernel_rfl) rfl (fun c a a' w h => by obtain ⟨_, v, hv, _⟩ := h; cases hv) (hS.at b7) (fun w hS => (fa41_1 h4)) ?_
      show wpA _ _ _ _ _ _ _ _ _ _
      refine a_step (i := 11) (is := []) (by kernel_rfl) ⟨?_, trivial⟩
      refine ⟨_, rfl, ?_⟩
      refine sapp (bytes := 8) (size := 1) (v := hv) (m := 1) hS rfl rfl Tryz.underlying39 ti3 rfl rfl rfl rfl (by decide) (blk_cells (hS.at _)) rfl rfl (by omega) (by omega) ?_; clear hS; intro v29 w hS
      refine nil ?_
      refine ⟨fun _ => (hS.at b7), ?_⟩
      show wpA _ _ _ _ _ _ _ _ _ _
      show wpA _ _ _ _ _ _ _ _ _ _
      refine a_step (i := 13) (is := []) (by kernel_rfl) ⟨?_, trivial⟩
      refine ⟨_, rfl, ?_⟩
      obtain ⟨a23, c23, rfl⟩ := row_shape (hS.row v23)
      refine sst hS rfl rfl Tryz.sizeOf39 rfl rfl rfl rfl ?_; clear hS; intro w hS
      refine nil ?_
      refine ⟨fun _ => (hS.at b7), ?_⟩
      show wpA _ _ _ _ _ _ _ _ _ _
      refine f_step 14 (by kernel_rfl) rfl (fun c a a' w h => by obtain ⟨_, v, hv, _⟩ := h; cases hv) (hS.at b7) (fun w hS => (fa41_1 h5)) ?_
      show wpA _ _ _ _ _ _ _ _ _ _
      refine a_step (i := 15) (is := []) (by kernel_rfl) ⟨?_, trivial⟩
      refine ⟨_, rfl, ?_⟩
      obtain ⟨a29, c29, rfl⟩ := row_shape (hS.row v29)
      refine sst hS rfl rfl Tryz.sizeOf39 rfl rfl rfl rfl ?_; clear hS; intro w hS
      refine nil ?_
      refine ⟨fun _ => (hS.at b7), ?_⟩
      show wpA _ _ _ _ _ _ _ _ _ _
      refine a_end (by kernel_rfl) ?_
      show Code.wp _ _ _ _ _
      refine region ?_
      refine sv (yAdd h14 rfl ⟨by omega, by omega⟩) ?_
      refine sv (yMove rfl) ?_
      refine nil ?_
      exact ⟨_, _, rfl, ⟨k + 1, _, _, h0, h4, h5, h12, h13, rfl, (by rw [take_snoc (show (losS l)[k]? = some (spn l k).lo by simp [losS, spn_get hkl]), take_snoc (show (hisS l)[k]? = some (spn l k).hi by simp [hisS, spn_get hkl]), List.flatMap_append, List.flatMap_append]; first | exact hS.sub (.cons _ (.cons _ (.cons _ (List.Sublist.refl _)))) | exact (hS.sub (.cons _ (.cons _ (.cons _ (List.Sublist.refl _))))).perm (List.Perm.swap _ _ _)), (by omega), rfl⟩, by omega⟩
   ·
    refine ⟨_, rfl, ?_⟩
    refine sv (yLdB rfl Tryz.isAgg39 (hS.at _) rfl) ?_
    refine nil ?_
    refine ⟨fun _ => (hS.at b7), ?_⟩
    show wpA _ _ _ _ _ _ _ _ _ _
    show wpA _ _ _ _ _ _ _ _ _ _
    refine a_step (i := 1) (is := [10]) (by kernel_rfl) ⟨?_, ?_, trivial⟩
    ·
     refine ⟨_, rfl, ?_⟩
     refine sv (yLdB rfl Tryz.isAgg39 (hS.at _) rfl) ?_
     refine nil ?_
     refine ⟨fun _ => (hS.at b7), ?_⟩
     show wpA _ _ _ _ _ _ _ _ _ _
     show wpA _ _ _ _ _ _ _ _ _ _
     refine a_step (i := 5) (is := [10]) (by kernel_rfl) ⟨?_, ?_, trivial⟩
     ·
      refine ⟨_, rfl, ?_⟩
      refine sapp (bytes := 8) (size := 1) (v := lv) (m := 1) hS rfl rfl Tryz.underlying39 ti3 rfl rfl rfl rfl (by decide) (blk_cells (hS.at _)) rfl rfl (by omega) (by omega) ?_; clear hS; intro v23 w hS
      refine nil ?_
      refine ⟨fun _ => (hS.at b7), ?_⟩
      show wpA _ _ _ _ _ _ _ _ _ _
      refine f_step 12 (by kernel_rfl) rfl (fun c a a' w h => by obtain ⟨_, v, hv, _⟩ := h; cases hv) (hS.at b7) (fun w hS => (fa41_1 h4)) ?_
      show wpA _ _ _ _ _ _ _ _ _ _
      refine a_step (i := 10) (is := []) (by kernel_rfl) ⟨?_, trivial⟩
      refine ⟨_, rfl, ?_⟩
      refine sbslice hS Tryz.underlying39 Tryz.sizeOf3 rfl Tryz.zeroValue3 rfl (.cons rfl rfl .nil) rfl ?_; clear hS; intro b28 w hS
      refine nil ?_
      refine ⟨fun _ => (hS.at b7), ?_⟩
      show wpA _ _ _ _ _ _ _ _ _ _
      show wpA _ _ _ _ _ _ _ _ _ _
      refine a_step (i := 11) (is := []) (by kernel_rfl) ⟨?_, trivial⟩
      refine ⟨_, rfl, ?_⟩
      refine sapp (bytes := 8) (size := 1) (v := hv) (m := 1) hS rfl rfl Tryz.underlying39 ti3 rfl rfl rfl rfl (by decide) (blk_cells (hS.at _)) rfl rfl (by omega) (by omega) ?_; clear hS; intro v29 w hS
      refine nil ?_
      refine ⟨fun _ => (hS.at b7), ?_⟩
      show wpA _ _ _ _ _ _ _ _ _ _
      show wpA _ _ _ _ _ _ _ _ _ _
      refine a_step (i := 13) (is := []) (by kernel_rfl) ⟨?_, trivial⟩
      refine ⟨_, rfl, ?_⟩
      obtain ⟨a23, c23, rfl⟩ := row_shape (hS.row v23)
      refine sst hS rfl rfl Tryz.sizeOf39 rfl rfl rfl rfl ?_; clear hS; intro w hS
      refine nil ?_
      refine ⟨fun _ => (hS.at b7), ?_⟩
      show wpA _ _ _ _ _ _ _ _ _ _
      refine f_step 14 (by kernel_rfl) rfl (fun c a a' w h => by obtain ⟨_, v, hv, _⟩ := h; cases hv) (hS.at b7) (fun w hS => (fa41_1 h5)) ?_
      show wpA _ _ _ _ _ _ _ _ _ _
      refine a_step (i := 15) (is := []) (by kernel_rfl) ⟨?_, trivial⟩
      refine ⟨_, rfl, ?_⟩
      obtain ⟨a29, c29, rfl⟩ := row_shape (hS.row v29)
      refine sst hS rfl rfl Tryz.sizeOf39 rfl rfl rfl rfl ?_; clear hS; intro w hS
      refine nil ?_
      refine ⟨fun _ => (hS.at b7), ?_⟩
      show wpA _ _ _ _ _ _ _ _ _ _
      refine a_end (by kernel_rfl) ?_
      show Code.wp _ _ _ _ _
      refine region ?_
      refine sv (yAdd h14 rfl ⟨by omega, by omega⟩) ?_
      refine sv (yMove rfl) ?_
      refine nil ?_
      exact ⟨_, _, rfl, ⟨k + 1, _, _, h0, h4, h5, h12, h13, rfl, (by rw [take_snoc (show (losS l)[k]? = some (spn l k).lo by simp [losS, spn_get hkl]), take_snoc (show (hisS l)[k]? = some (spn l k).hi by simp [hisS, spn_get hkl]), List.flatMap_append, List.flatMap_append]; first | exact hS.sub (.cons _ (.cons _ (.cons _ (List.Sublist.refl _)))) | exact (hS.sub (.cons _ (.cons _ (.cons _ (List.Sublist.refl _))))).perm (List.Perm.swap _ _ _)), (by omega), rfl⟩, by omega⟩
     ·
      refine ⟨_, rfl, ?_⟩
      refine sbslice hS Tryz.underlying39 Tryz.sizeOf3 rfl Tryz.zeroValue3 rfl (.cons rfl rfl .nil) rfl ?_; clear hS; intro b28 w hS
      refine nil ?_
      refine ⟨fun _ => (hS.at b7), ?_⟩
      show wpA _ _ _ _ _ _ _ _ _ _
      show wpA _ _ _ _ _ _ _ _ _ _
      refine a_step (i := 5) (is := []) (by kernel_rfl) ⟨?_, trivial⟩
      refine ⟨_, rfl, ?_⟩
      refine sapp (bytes := 8) (size := 1) (v := lv) (m := 1) hS rfl rfl Tryz.underlying39 ti3 rfl rfl rfl rfl (by decide) (blk_cells (hS.at _)) rfl rfl (by omega) (by omega) ?_; clear hS; intro v23 w hS
      refine nil ?_
      refine ⟨fun _ => (hS.at b7), ?_⟩
      show wpA _ _ _ _ _ _ _ _ _ _
      refine f_step 12 (by kernel_rfl) rfl (fun c a a' w h => by obtain ⟨_, v, hv, _⟩ := h; cases hv) (hS.at b7) (fun w hS => (fa41_1 h4)) ?_
      show wpA _ _ _ _ _ _ _ _ _ _
      refine a_step (i := 11) (is := []) (by kernel_rfl) ⟨?_, trivial⟩
      refine ⟨_, rfl, ?_⟩
      refine sapp (bytes := 8) (size := 1) (v := hv) (m := 1) hS rfl rfl Tryz.underlying39 ti3 rfl rfl rfl rfl (by decide) (blk_cells (hS.at _)) rfl rfl (by omega) (by omega) ?_; clear hS; intro v29 w hS
      refine nil ?_
      refine ⟨fun _ => (hS.at b7), ?_⟩
      show wpA _ _ _ _ _ _ _ _ _ _
      show wpA _ _ _ _ _ _ _ _ _ _
      refine a_step (i := 13) (is := []) (by kernel_rfl) ⟨?_, trivial⟩
      refine ⟨_, rfl, ?_⟩
      obtain ⟨a23, c23, rfl⟩ := row_shape (hS.row v23)
      refine sst hS rfl rfl Tryz.sizeOf39 rfl rfl rfl rfl ?_; clear hS; intro w hS
      refine nil ?_
      refine ⟨fun _ => (hS.at b7), ?_⟩
      show wpA _ _ _ _ _ _ _ _ _ _
      refine f_step 14 (by kernel_rfl) rfl (fun c a a' w h => by obtain ⟨_, v, hv, _⟩ := h; cases hv) (hS.at b7) (fun w hS => (fa41_1 h5)) ?_
      show wpA _ _ _ _ _ _ _ _ _ _
      refine a_step (i := 15) (is := []) (by kernel_rfl) ⟨?_, trivial⟩
      refine ⟨_, rfl, ?_⟩
      obtain ⟨a29, c29, rfl⟩ := row_shape (hS.row v29)
      refine sst hS rfl rfl Tryz.sizeOf39 rfl rfl rfl rfl ?_; clear hS; intro w hS
      refine nil ?_
      refine ⟨fun _ => (hS.at b7), ?_⟩
      show wpA _ _ _ _ _ _ _ _ _ _
      refine a_end (by kernel_rfl) ?_
      show Code.wp _ _ _ _ _
      refine region ?_
      refine sv (yAdd h14 rfl ⟨by omega, by omega⟩) ?_
      refine sv (yMove rfl) ?_
      refine nil ?_
      exact ⟨_, _, rfl, ⟨k + 1, _, _, h0, h4, h5, h12, h13, rfl, (by rw [take_snoc (show (losS l)[k]? = some (spn l k).lo by simp [losS, spn_get hkl]), take_snoc (show (hisS l)[k]? = some (spn l k).hi by simp [hisS, spn_get hkl]), List.flatMap_append, List.flatMap_append]; first | exact hS.sub (.cons _ (.cons _ (.cons _ (List.Sublist.refl _)))) | exact (hS.sub (.cons _ (.cons _ (.cons _ (List.Sublist.refl _))))).perm (List.Perm.swap _ _ _)), (by omega), rfl⟩, by omega⟩
    ·
     refine ⟨_, rfl, ?_⟩
     refine sbslice hS Tryz.underlying39 Tryz.sizeOf3 rfl Tryz.zeroValue3 rfl (.cons rfl rfl .nil) rfl ?_; clear hS; intro b28 w hS
     refine nil ?_
     refine ⟨fun _ => (hS.at b7), ?_⟩
     show wpA _ _ _ _ _ _ _ _ _ _
     show wpA _ _ _ _ _ _ _ _ _ _
     refine a_step (i := 1) (is := []) (by kernel_rfl) ⟨?_, trivial⟩
     refine ⟨_, rfl, ?_⟩
     refine sv (yLdB rfl Tryz.isAgg39 (hS.at _) rfl) ?_
     refine nil ?_
     refine ⟨fun _ => (hS.at b7), ?_⟩
     show wpA _ _ _ _ _ _ _ _ _ _
     show wpA _ _ _ _ _ _ _ _ _ _
     refine a_step (i := 5) (is := []) (by kernel_rfl) ⟨?_, trivial⟩
     refine ⟨_, rfl, ?_⟩
     refine sapp (bytes := 8) (size := 1) (v := lv) (m := 1) hS rfl rfl Tryz.underlying39 ti3 rfl rfl rfl rfl (by decide) (blk_cells (hS.at _)) rfl rfl (by omega) (by omega) ?_; clear hS; intro v23 w hS
     refine nil ?_
     refine ⟨fun _ => (hS.at b7), ?_⟩
     show wpA _ _ _ _ _ _ _ _ _ _
     refine f_step 12 (by kernel_rfl) rfl (fun c a a' w h => by obtain ⟨_, v, hv, _⟩ := h; cases hv) (hS.at b7) (fun w hS => (fa41_1 h4)) ?_
     show wpA _ _ _ _ _ _ _ _ _ _
     refine a_step (i := 11) (is := []) (by kernel_rfl) ⟨?_, trivial⟩
     refine ⟨_, rfl, ?_⟩
     refine sapp (bytes := 8) (size := 1) (v := hv) (m := 1) hS rfl rfl Tryz.underlying39 ti3 rfl rfl rfl rfl (by decide) (blk_cells (hS.at _)) rfl rfl (by omega) (by omega) ?_; clear hS; intro v29 w hS
     refine nil ?_
     refine ⟨fun _ => (hS.at b7), ?_⟩
     show wpA _ _ _ _ _ _ _ _ _ _
     show wpA _ _ _ _ _ _ _ _ _ _
     refine a_step (i := 13) (is := []) (by kernel_rfl) ⟨?_, trivial⟩
     refine ⟨_, rfl, ?_⟩
     obtain ⟨a23, c23, rfl⟩ := row_shape (hS.row v23)
     refine sst hS rfl rfl Tryz.sizeOf39 rfl rfl rfl rfl ?_; clear hS; intro w hS
     refine nil ?_
     refine ⟨fun _ => (hS.at b7), ?_⟩
     show wpA _ _ _ _ _ _ _ _ _ _
     refine f_step 14 (by kernel_rfl) rfl (fun c a a' w h => by obtain ⟨_, v, hv, _⟩ := h; cases hv) (hS.at b7) (fun w hS => (fa41_1 h5)) ?_
     show wpA _ _ _ _ _ _ _ _ _ _
     refine a_step (i := 15) (is := []) (by kernel_rfl) ⟨?_, trivial⟩
     refine ⟨_, rfl, ?_⟩
     obtain ⟨a29, c29, rfl⟩ := row_shape (hS.row v29)
     refine sst hS rfl rfl Tryz.sizeOf39 rfl rfl rfl rfl ?_; clear hS; intro w hS
     refine nil ?_
     refine ⟨fun _ => (hS.at b7), ?_⟩
     show wpA _ _ _ _ _ _ _ _ _ _
     refine a_end (by kernel_rfl) ?_
     show Code.wp _ _ _ _ _
     refine region ?_
     refine sv (yAdd h14 rfl ⟨by omega, by omega⟩) ?_
     refine sv (yMove rfl) ?_
     refine nil ?_
     exact ⟨_, _, rfl, ⟨k + 1, _, _, h0, h4, h5, h12, h13, rfl, (by rw [take_snoc (show (losS l)[k]? = some (spn l k).lo by simp [losS, spn_get hkl]), take_snoc (show (hisS l)[k]? = some (spn l k).hi by simp [hisS, spn_get hkl]), List.flatMap_append, List.flatMap_append]; first | exact hS.sub (.cons _ (.cons _ (.cons _ (List.Sublist.refl _)))) | exact (hS.sub (.cons _ (.cons _ (.cons _ (List.Sublist.refl _))))).perm (List.Perm.swap _ _ _)), (by omega), rfl⟩, by omega⟩
   ·
    refine ⟨_, rfl, ?_⟩
    refine sbslice hS Tryz.underlying39 Tryz.sizeOf3 rfl Tryz.zeroValue3 rfl (.cons rfl rfl .nil) rfl ?_; clear hS; intro b28 w hS
    refine nil ?_
    refine ⟨fun _ => (hS.at b7), ?_⟩
    show wpA _ _ _ _ _ _ _ _ _ _
    show wpA _ _ _ _ _ _ _ _ _ _
    refine a_step (i := 1) (is := [7]) (by kernel_rfl) ⟨?_, ?_, trivial⟩
    ·
     refine ⟨_, rfl, ?_⟩
     refine sv (yLdB rfl Tryz.isAgg39 (hS.at _) rfl) ?_
     refine nil ?_
     refine ⟨fun _ => (hS.at b7), ?_⟩
     show wpA _ _ _ _ _ _ _ _ _ _
     show wpA _ _ _ _ _ _ _ _ _ _
     refine a_step (i := 5) (is := [7]) (by kernel_rfl) ⟨?_, ?_, trivial⟩
     ·
      refine ⟨_, rfl, ?_⟩
      refine sapp (bytes := 8) (size := 1) (v := lv) (m := 1) hS rfl rfl Tryz.underlying39 ti3 rfl rfl rfl rfl (by decide) (blk_cells (hS.at _)) rfl rfl (by omega) (by omega) ?_; clear hS; intro v23 w hS
      refine nil ?_
      refine ⟨fun _ => (hS.at b7), ?_⟩
      show wpA _ _ _ _ _ _ _ _ _ _
      refine f_step 12 (by kernel_rfl) rfl (fun c a a' w h => by obtain ⟨_, v, hv, _⟩ := h; cases hv) (hS.at b7) (fun w hS => (fa41_1 h4)) ?_
      show wpA _ _ _ _ _ _ _ _ _ _
      refine a_step (i := 7) (is := []) (by kernel_rfl) ⟨?_, trivial⟩
      refine ⟨_, rfl, ?_⟩
      refine sv (yLdB rfl Tryz.isAgg39 (hS.at _) rfl) ?_
      refine nil ?_
      refine ⟨fun _ => (hS.at b7), ?_⟩
      show wpA _ _ _ _ _ _ _ _ _ _
      show wpA _ _ _ _ _ _ _ _ _ _
      refine a_step (i := 11) (is := []) (by kernel_rfl) ⟨?_, trivial⟩
      refine ⟨_, rfl, ?_⟩
      refine sapp (bytes := 8) (size := 1) (v := hv) (m := 1) hS rfl rfl Tryz.underlying39 ti3 rfl rfl rfl rfl (by decide) (blk_cells (hS.at _)) rfl rfl (by omega) (by omega) ?_; clear hS; intro v29 w hS
      refine nil ?_
      refine ⟨fun _ => (hS.at b7), ?_⟩
      show wpA _ _ _ _ _ _ _ _ _ _
      show wpA _ _ _ _ _ _ _ _ _ _
      refine a_step (i := 13) (is := []) (by kernel_rfl) ⟨?_, trivial⟩
      refine ⟨_, rfl, ?_⟩
      obtain ⟨a23, c23, rfl⟩ := row_shape (hS.row v23)
      refine sst hS rfl rfl Tryz.sizeOf39 rfl rfl rfl rfl ?_; clear hS; intro w hS
      refine nil ?_
      refine ⟨fun _ => (hS.at b7), ?_⟩
      show wpA _ _ _ _ _ _ _ _ _ _
      refine f_step 14 (by kernel_rfl) rfl (fun c a a' w h => by obtain ⟨_, v, hv, _⟩ := h; cases hv) (hS.at b7) (fun w hS => (fa41_1 h5)) ?_
      show wpA _ _ _ _ _ _ _ _ _ _
      refine a_step (i := 15) (is := []) (by kernel_rfl) ⟨?_, trivial⟩
      refine ⟨_, rfl, ?_⟩
      obtain ⟨a29, c29, rfl⟩ := row_shape (hS.row v29)
      refine sst hS rfl rfl Tryz.sizeOf39 rfl rfl rfl rfl ?_; clear hS; intro w hS
      refine nil ?_
      refine ⟨fun _ => (hS.at b7), ?_⟩
      show wpA _ _ _ _ _ _ _ _ _ _
      refine a_end (by kernel_rfl) ?_
      show Code.wp _ _ _ _ _
      refine region ?_
      refine sv (yAdd h14 rfl ⟨by omega, by omega⟩) ?_
      refine sv (yMove rfl) ?_
      refine nil ?_
      exact ⟨_, _, rfl, ⟨k + 1, _, _, h0, h4, h5, h12, h13, rfl, (by rw [take_snoc (show (losS l)[k]? = some (spn l k).lo by simp [losS, spn_get hkl]), take_snoc (show (hisS l)[k]? = some (spn l k).hi by simp [hisS, spn_get hkl]), List.flatMap_append, List.flatMap_append]; first | exact hS.sub (.cons _ (.cons _ (.cons _ (List.Sublist.refl _)))) | exact (hS.sub (.cons _ (.cons _ (.cons _ (List.Sublist.refl _))))).perm (List.Perm.swap _ _ _)), (by omega), rfl⟩, by omega⟩
     ·
      refine ⟨_, rfl, ?_⟩
      refine sv (yLdB rfl Tryz.isAgg39 (hS.at _) rfl) ?_
      refine nil ?_
      refine ⟨fun _ => (hS.at b7), ?_⟩
      show wpA _ _ _ _ _ _ _ _ _ _
      show wpA _ _ _ _ _ _ _ _ _ _
      refine a_step (i := 5) (is := []) (by kernel_rfl) ⟨?_, trivial⟩
      refine ⟨_, rfl, ?_⟩
      refine sapp (bytes := 8) (size := 1) (v := lv) (m := 1) hS rfl rfl Tryz.underlying39 ti3 rfl rfl rfl rfl (by decide) (blk_cells (hS.at _)) rfl rfl (by omega) (by omega) ?_; clear hS; intro v23 w hS
      refine nil ?_
      refine ⟨fun _ => (hS.at b7), ?_⟩
      show wpA _ _ _ _ _ _ _ _ _ _
      refine f_step 12 (by kernel_rfl) rfl (fun c a a' w h => by obtain ⟨_, v, hv, _⟩ := h; cases hv) (hS.at b7) (fun w hS => (fa41_1 h4)) ?_
      show wpA _ _ _ _ _ _ _ _ _ _
      refine a_step (i := 11) (is := []) (by kernel_rfl) ⟨?_, trivial⟩
      refine ⟨_, rfl, ?_⟩
      refine sapp (bytes := 8) (size := 1) (v := hv) (m := 1) hS rfl rfl Tryz.underlying39 ti3 rfl rfl rfl rfl (by decide) (blk_cells (hS.at _)) rfl rfl (by omega) (by omega) ?_; clear hS; intro v29 w hS
      refine nil ?_
      refine ⟨fun _ => (hS.at b7), ?_⟩
      show wpA _ _ _ _ _ _ _ _ _ _
      show wpA _ _ _ _ _ _ _ _ _ _
      refine a_step (i := 13) (is := []) (by kernel_rfl) ⟨?_, trivial⟩
      refine ⟨_, rfl, ?_⟩
      obtain ⟨a23, c23, rfl⟩ := row_shape (hS.row v23)
      refine sst hS rfl rfl Tryz.sizeOf39 rfl rfl rfl rfl ?_; clear hS; intro w hS
      refine nil ?_
      refine ⟨fun _ => (hS.at b7), ?_⟩
      show wpA _ _ _ _ _ _ _ _ _ _
      refine f_step 14 (by kernel_rfl) rfl (fun c a a' w h => by obtain ⟨_, v, hv, _⟩ := h; cases hv) (hS.at b7) (fun w hS => (fa41_1 h5)) ?_
      show wpA _ _ _ _ _ _ _ _ _ _
      refine a_step (i := 15) (is := []) (by kernel_rfl) ⟨?_, trivial⟩
      refine ⟨_, rfl, ?_⟩
      obtain ⟨a29, c29, rfl⟩ := row_shape (hS.row v29)
      refine sst hS rfl rfl Tryz.sizeOf39 rfl rfl rfl rfl ?_; clear hS; intro w hS
      refine nil ?_
      refine ⟨fun _ => (hS.at b7), ?_⟩
      show wpA _ _ _ _ _ _ _ _ _ _
      refine a_end (by kernel_rfl) ?_
      show Code.wp _ _ _ _ _
      refine region ?_
      refine sv (yAdd h14 rfl ⟨by omega, by omega⟩) ?_
      refine sv (yMove rfl) ?_
      refine nil ?_
      exact ⟨_, _, rfl, ⟨k + 1, _, _, h0, h4, h5, h12, h13, rfl, (by rw [take_snoc (show (losS l)[k]? = some (spn l k).lo by simp [losS, spn_get hkl]), take_snoc (show (hisS l)[k]? = some (spn l k).hi by simp [hisS, spn_get hkl]), List.flatMap_append, List.flatMap_append]; first | exact hS.sub (.cons _ (.cons _ (.cons _ (List.Sublist.refl _)))) | exact (hS.sub (.cons _ (.cons _ (.cons _ (List.Sublist.refl _))))).perm (List.Perm.swap _ _ _)), (by omega), rfl⟩, by omega⟩
    ·
     refine ⟨_, rfl, ?_⟩
     refine sv (yLdB rfl Tryz.isAgg39 (hS.at _) rfl) ?_
     refine nil ?_
     refine ⟨fun _ => (hS.at b7), ?_⟩
     show wpA _ _ _ _ _ _ _ _ _ _
     show wpA _ _ _ _ _ _ _ _ _ _
     refine a_step (i := 1) (is := []) (by kernel_rfl) ⟨?_, trivial⟩
     refine ⟨_, rfl, ?_⟩
     refine sv (yLdB rfl Tryz.isAgg39 (hS.at _) rfl) ?_
     refine nil ?_
     refine ⟨fun _ => (hS.at b7), ?_⟩
     show wpA _ _ _ _ _ _ _ _ _ _
     show wpA _ _ _ _ _ _ _ _ _ _
     refine a_step (i := 5) (is := []) (by kernel_rfl) ⟨?_, trivial⟩
     refine ⟨_, rfl, ?_⟩
     refine sapp (bytes := 8) (size := 1) (v := lv) (m := 1) hS rfl rfl Tryz.underlying39 ti3 rfl rfl rfl rfl (by decide) (blk_cells (hS.at _)) rfl rfl (by omega) (by omega) ?_; clear hS; intro v23 w hS
     refine nil ?_
     refine ⟨fun _ => (hS.at b7), ?_⟩
     show wpA _ _ _ _ _ _ _ _ _ _
     refine f_step 12 (by kernel_rfl) rfl (fun c a a' w h => by obtain ⟨_, v, hv, _⟩ := h; cases hv) (hS.at b7) (fun w hS => (fa41_1 h4)) ?_
     show wpA _ _ _ _ _ _ _ _ _ _
     refine a_step (i := 11) (is := []) (by kernel_rfl) ⟨?_, trivial⟩
     refine ⟨_, rfl, ?_⟩
     refine sapp (bytes := 8) (size := 1) (v := hv) (m := 1) hS rfl rfl Tryz.underlying39 ti3 rfl rfl rfl rfl (by decide) (blk_cells (hS.at _)) rfl rfl (by omega) (by omega) ?_; clear hS; intro v29 w hS
     refine nil ?_
     refine ⟨fun _ => (hS.at b7), ?_⟩
     show wpA _ _ _ _ _ _ _ _ _ _
     show wpA _ _ _ _ _ _ _ _ _ _
     refine a_step (i := 13) (is := []) (by kernel_rfl) ⟨?_, trivial⟩
     refine ⟨_, rfl, ?_⟩
     obtain ⟨a23, c23, rfl⟩ := row_shape (hS.row v23)
     refine sst hS rfl rfl Tryz.sizeOf39 rfl rfl rfl rfl ?_; clear hS; intro w hS
     refine nil ?_
     refine ⟨fun _ => (hS.at b7), ?_⟩
     show wpA _ _ _ _ _ _ _ _ _ _
     refine f_step 14 (by kernel_rfl) rfl (fun c a a' w h => by obtain ⟨_, v, hv, _⟩ := h; cases hv) (hS.at b7) (fun w hS => (fa41_1 h5)) ?_
     show wpA _ _ _ _ _ _ _ _ _ _
     refine a_step (i := 15) (is := []) (by kernel_rfl) ⟨?_, trivial⟩
     refine ⟨_, rfl, ?_⟩
     obtain ⟨a29, c29, rfl⟩ := row_shape (hS.row v29)
     refine sst hS rfl rfl Tryz.sizeOf39 rfl rfl rfl rfl ?_; clear hS; intro w hS
     refine nil ?_
     refine ⟨fun _ => (hS.at b7), ?_⟩
     show wpA _ _ _ _ _ _ _ _ _ _
     refine a_end (by kernel_rfl) ?_
     show Code.wp _ _ _ _ _
     refine region ?_
     refine sv (yAdd h14 rfl ⟨by omega, by omega⟩) ?_
     refine sv (yMove rfl) ?_
     refine nil ?_
     exact ⟨_, _, rfl, ⟨k + 1, _, _, h0, h4, h5, h12, h13, rfl, (by rw [take_snoc (show (losS l)[k]? = some (spn l k).lo by simp [losS, spn_get hkl]), take_snoc (show (hisS l)[k]? = some (spn l k).hi by simp [hisS, spn_get hkl]), List.flatMap_append, List.flatMap_append]; first | exact hS.sub (.cons _ (.cons _ (.cons _ (List.Sublist.refl _)))) | exact (hS.sub (.cons _ (.cons _ (.cons _ (List.Sublist.refl _))))).perm (List.Perm.swap _ _ _)), (by omega), rfl⟩, by omega⟩
  ·
   refine ⟨_, rfl, ?_⟩
   refine sv (yLdB rfl Tryz.isAgg39 (hS.at _) rfl) ?_
   refine nil ?_
   refine ⟨fun _ => (hS.at b7), ?_⟩
   show wpA _ _ _ _ _ _ _ _ _ _
   show wpA _ _ _ _ _ _ _ _ _ _
   refine a_step (i := 1) (is := [4, 10]) (by kernel_rfl) ⟨?_, ?_, ?_, trivial⟩
   ·
    refine ⟨_, rfl, ?_⟩
    refine sv (yLdB rfl Tryz.isAgg39 (hS.at _) rfl) ?_
    refine nil ?_
    refine ⟨fun _ => (hS.at b7), ?_⟩
    show wpA _ _ _ _ _ _ _ _ _ _
    show wpA _ _ _ _ _ _ _ _ _ _
    refine a_step (i := 4) (is := [10]) (by kernel_rfl) ⟨?_, ?_, trivial⟩
    ·
     refine ⟨_, rfl, ?_⟩
     refine sbslice hS Tryz.underlying39 Tryz.sizeOf3 rfl Tryz.zeroValue3 rfl (.cons rfl rfl .nil) rfl ?_; clear hS; intro b22 w hS
     refine nil ?_
     refine ⟨fun _ => (hS.at b7), ?_⟩
     show wpA _ _ _ _ _ _ _ _ _ _
     show wpA _ _ _ _ _ _ _ _ _ _
     refine a_step (i := 5) (is := [10]) (by kernel_rfl) ⟨?_, ?_, trivial⟩
     ·
      refine ⟨_, rfl, ?_⟩
      refine sapp (bytes := 8) (size := 1) (v := lv) (m := 1) hS rfl rfl Tryz.underlying39 ti3 rfl rfl rfl rfl (by decide) (blk_cells (hS.at _)) rfl rfl (by omega) (by omega) ?_; clear hS; intro v23 w hS
      refine nil ?_
      refine ⟨fun _ => (hS.at b7), ?_⟩
      show wpA _ _ _ _ _ _ _ _ _ _
      refine f_step 12 (by kernel_rfl) rfl (fun c a a' w h => by obtain ⟨_, v, hv, _⟩ := h; cases hv) (hS.at b7) (fun w hS => (fa41_1 h4)) ?_
      show wpA _ _ _ _ _ _ _ _ _ _
      refine a_step (i := 10) (is := []) (by kernel_rfl) ⟨?_, trivial⟩
      refine ⟨_, rfl, ?_⟩
      refine sbslice hS Tryz.underlying39 Tryz.sizeOf3 rfl Tryz.zeroValue3 rfl (.cons rfl rfl .nil) rfl ?_; clear hS; intro b28 w hS
      refine nil ?_
      refine ⟨fun _ => (hS.at b7), ?_⟩
      show wpA _ _ _ _ _ _ _ _ _ _
      show wpA _ _ _ _ _ _ _ _ _ _
      refine a_step (i := 11) (is := []) (by kernel_rfl) ⟨?_, trivial⟩
      refine ⟨_, rfl, ?_⟩
      refine sapp (bytes := 8) (size := 1) (v := hv) (m := 1) hS rfl rfl Tryz.underlying39 ti3 rfl rfl rfl rfl (by decide) (blk_cells (hS.at _)) rfl rfl (by omega) (by omega) ?_; clear hS; intro v29 w hS
      refine nil ?_
      refine ⟨fun _ => (hS.at b7), ?_⟩
      show wpA _ _ _ _ _ _ _ _ _ _
      show wpA _ _ _ _ _ _ _ _ _ _
      refine a_step (i := 13) (is := []) (by kernel_rfl) ⟨?_, trivial⟩
      refine ⟨_, rfl, ?_⟩
      obtain ⟨a23, c23, rfl⟩ := row_shape (hS.row v23)
      refine sst hS rfl rfl Tryz.sizeOf39 rfl rfl rfl rfl ?_; clear hS; intro w hS
      refine nil ?_
      refine ⟨fun _ => (hS.at b7), ?_⟩
      show wpA _ _ _ _ _ _ _ _ _ _
      refine f_step 14 (by kernel_rfl) rfl (fun c a a' w h => by obtain ⟨_, v, hv, _⟩ := h; cases hv) (hS.at b7) (fun w hS => (fa41_1 h5)) ?_
      show wpA _ _ _ _ _ _ _ _ _ _
      refine a_step (i := 15) (is := []) (by kernel_rfl) ⟨?_, trivial⟩
      refine ⟨_, rfl, ?_⟩
      obtain ⟨a29, c29, rfl⟩ := row_shape (hS.row v29)
      refine sst hS rfl rfl Tryz.sizeOf39 rfl rfl rfl rfl ?_; clear hS; intro w hS
      refine nil ?_
      refine ⟨fun _ => (hS.at b7), ?_⟩
      show wpA _ _ _ _ _ _ _ _ _ _
      refine a_end (by kernel_rfl) ?_
      show Code.wp _ _ _ _ _
      refine region ?_
      refine sv (yAdd h14 rfl ⟨by omega, by omega⟩) ?_
      refine sv (yMove rfl) ?_
      refine nil ?_
      exact ⟨_, _, rfl, ⟨k + 1, _, _, h0, h4, h5, h12, h13, rfl, (by rw [take_snoc (show (losS l)[k]? = some (spn l k).lo by simp [losS, spn_get hkl]), take_snoc (show (hisS l)[k]? = some (spn l k).hi by simp [hisS, spn_get hkl]), List.flatMap_append, List.flatMap_append]; first | exact hS.sub (.cons _ (.cons _ (.cons _ (List.Sublist.refl _)))) | exact (hS.sub (.cons _ (.cons _ (.cons _ (List.Sublist.refl _))))).perm (List.Perm.swap _ _ _)), (by omega), rfl⟩, by omega⟩
     ·
      refine ⟨_, rfl, ?_⟩
      refine sbslice hS Tryz.underlying39 Tryz.sizeOf3 rfl Tryz.zeroValue3 rfl (.cons rfl rfl .nil) rfl ?_; clear hS; intro b28 w hS
      refine nil ?_
      refine ⟨fun _ => (hS.at b7), ?_⟩
      show wpA _ _ _ _ _ _ _ _ _ _
      show wpA _ _ _ _ _ _ _ _ _ _
      refine a_step (i := 5) (is := []) (by kernel_rfl) ⟨?_, trivial⟩
      refine ⟨_, rfl, ?_⟩
      refine sapp (bytes := 8) (size := 1) (v := lv) (m := 1) hS rfl rfl Tryz.underlying39 ti3 rfl rfl rfl rfl (by decide) (blk_cells (hS.at _)) rfl rfl (by omega) (by omega) ?_; clear hS; intro v23 w hS
      refine nil ?_
      refine ⟨fun _ => (hS.at b7), ?_⟩
      show wpA _ _ _ _ _ _ _ _ _ _
      refine f_step 12 (by kernel_rfl) rfl (fun c a a' w h => by obtain ⟨_, v, hv, _⟩ := h; cases hv) (hS.at b7) (fun w hS => (fa41_1 h4)) ?_
      show wpA _ _ _ _ _ _ _ _ _ _
      refine a_step (i := 11) (is := []) (by kernel_rfl) ⟨?_, trivial⟩
      refine ⟨_, rfl, ?_⟩
      refine sapp (bytes := 8) (size := 1) (v := hv) (m := 1) hS rfl rfl Tryz.underlying39 ti3 rfl rfl rfl rfl (by decide) (blk_cells (hS.at _)) rfl rfl (by omega) (by omega) ?_; clear hS; intro v29 w hS
      refine nil ?_
      refine ⟨fun _ => (hS.at b7), ?_⟩
      show wpA _ _ _ _ _ _ _ _ _ _
      show wpA _ _ _ _ _ _ _ _ _ _
      refine a_step (i := 13) (is := []) (by kernel_rfl) ⟨?_, trivial⟩
      refine ⟨_, rfl, ?_⟩
      obtain ⟨a23, c23, rfl⟩ := row_shape (hS.row v23)
      refine sst hS rfl rfl Tryz.sizeOf39 rfl rfl rfl rfl ?_; clear hS; intro w hS
      refine nil ?_
      refine ⟨fun _ => (hS.at b7), ?_⟩
      show wpA _ _ _ _ _ _ _ _ _ _
      refine f_step 14 (by kernel_rfl) rfl (fun c a a' w h => by obtain ⟨_, v, hv, _⟩ := h; cases hv) (hS.at b7) (fun w hS => (fa41_1 h5)) ?_
      show wpA _ _ _ _ _ _ _ _ _ _
      refine a_step (i := 15) (is := []) (by kernel_rfl) ⟨?_, trivial⟩
      refine ⟨_, rfl, ?_⟩
      obtain ⟨a29, c29, rfl⟩ := row_shape (hS.row v29)
      refine sst hS rfl rfl Tryz.sizeOf39 rfl rfl rfl rfl ?_; clear hS; intro w hS
      refine nil ?_
      refine ⟨fun _ => (hS.at b7), ?_⟩
      show wpA _ _ _ _ _ _ _ _ _ _
      refine a_end (by kernel_rfl) ?_
      show Code.wp _ _ _ _ _
      refine region ?_
      refine sv (yAdd h14 rfl ⟨by omega, by omega⟩) ?_
      refine sv (yMove rfl) ?_
      refine nil ?_
      exact ⟨_, _, rfl, ⟨k + 1, _, _, h0, h4, h5, h12, h13, rfl, (by rw [take_snoc (show (losS l)[k]? = some (spn l k).lo by simp [losS, spn_get hkl]), take_snoc (show (hisS l)[k]? = some (spn l k).hi by simp [hisS, spn_get hkl]), List.flatMap_append, List.flatMap_append]; first | exact hS.sub (.cons _ (.cons _ (.cons _ (List.Sublist.refl _)))) | exact (hS.sub (.cons _ (.cons _ (.cons _ (List.Sublist.refl _))))).perm (List.Perm.swap _ _ _)), (by omega), rfl⟩, by omega⟩
    ·
     refine ⟨_, rfl, ?_⟩
     refine sbslice hS Tryz.underlying39 Tryz.sizeOf3 rfl Tryz.zeroValue3 rfl (.cons rfl rfl .nil) rfl ?_; clear hS; intro b28 w hS
     refine nil ?_
     refine ⟨fun _ => (hS.at b7), ?_⟩
     show wpA _ _ _ _ _ _ _ _ _ _
     show wpA _ _ _ _ _ _ _ _ _ _
     refine a_step (i := 4) (is := []) (by kernel_rfl) ⟨?_, trivial⟩
     refine ⟨_, rfl, ?_⟩
     refine sbslice hS Tryz.underlying39 Tryz.sizeOf3 rfl Tryz.zeroValue3 rfl (.cons rfl rfl .nil) rfl ?_; clear hS; intro b22 w hS
     refine nil ?_
     refine ⟨fun _ => (hS.at b7), ?_⟩
     show wpA _ _ _ _ _ _ _ _ _ _
     show wpA _ _ _ _ _ _ _ _ _ _
     refine a_step (i := 5) (is := []) (by kernel_rfl) ⟨?_, trivial⟩
     refine ⟨_, rfl, ?_⟩
     refine sapp (bytes := 8) (size := 1) (v := lv) (m := 1) hS rfl rfl Tryz.underlying39 ti3 rfl rfl rfl rfl (by decide) (blk_cells (hS.at _)) rfl rfl (by omega) (by omega) ?_; clear hS; intro v23 w hS
     refine nil ?_
     refine ⟨fun _ => (hS.at b7), ?_⟩
     show wpA _ _ _ _ _ _ _ _ _ _
     refine f_step 12 (by kernel_rfl) rfl (fun c a a' w h => by obtain ⟨_, v, hv, _⟩ := h; cases hv) (hS.at b7) (fun w hS => (fa41_1 h4)) ?_
     show wpA _ _ _ _ _ _ _ _ _ _
     refine a_step (i := 11) (is := []) (by kernel_rfl) ⟨?_, trivial⟩
     refine ⟨_, rfl, ?_⟩
     refine sapp (bytes := 8) (size := 1) (v := hv) (m := 1) hS rfl rfl Tryz.underlying39 ti3 rfl rfl rfl rfl (by decide) (blk_cells (hS.at _)) rfl rfl (by omega) (by omega) ?_; clear hS; intro v29 w hS
     refine nil ?_
     refine ⟨fun _ => (hS.at b7), ?_⟩
     show wpA _ _ _ _ _ _ _ _ _ _
     show wpA _ _ _ _ _ _ _ _ _ _
     refine a_step (i := 13) (is := []) (by kernel_rfl) ⟨?_, trivial⟩
     refine ⟨_, rfl, ?_⟩
     obtain ⟨a23, c23, rfl⟩ := row_shape (hS.row v23)
     refine sst hS rfl rfl Tryz.sizeOf39 rfl rfl rfl rfl ?_; clear hS; intro w hS
     refine nil ?_
     refine ⟨fun _ => (hS.at b7), ?_⟩
     show wpA _ _ _ _ _ _ _ _ _ _
     refine f_step 14 (by kernel_rfl) rfl (fun c a a' w h => by obtain ⟨_, v, hv, _⟩ := h; cases hv) (hS.at b7) (fun w hS => (fa41_1 h5)) ?_
     show wpA _ _ _ _ _ _ _ _ _ _
     refine a_step (i := 15) (is := []) (by kernel_rfl) ⟨?_, trivial⟩
     refine ⟨_, rfl, ?_⟩
     obtain ⟨a29, c29, rfl⟩ := row_shape (hS.row v29)
     refine sst hS rfl rfl Tryz.sizeOf39 rfl rfl rfl rfl ?_; clear hS; intro w hS
     refine nil ?_
     refine ⟨fun _ => (hS.at b7), ?_⟩
     show wpA _ _ _ _ _ _ _ _ _ _
     refine a_end (by kernel_rfl) ?_
     show Code.wp _ _ _ _ _
     refine region ?_
     refine sv (yAdd h14 rfl ⟨by omega, by omega⟩) ?_
     refine sv (yMove rfl) ?_
     refine nil ?_
     exact ⟨_, _, rfl, ⟨k + 1, _, _, h0, h4, h5, h12, h13, rfl, (by rw [take_snoc (show (losS l)[k]? = some (spn l k).lo by simp [losS, spn_get hkl]), take_snoc (show (hisS l)[k]? = some (spn l k).hi by simp [hisS, spn_get hkl]), List.flatMap_append, List.flatMap_append]; first | exact hS.sub (.cons _ (.cons _ (.cons _ (List.Sublist.refl _)))) | exact (hS.sub (.cons _ (.cons _ (.cons _ (List.Sublist.refl _))))).perm (List.Perm.swap _ _ _)), (by omega), rfl⟩, by omega⟩
   ·
    refine ⟨_, rfl, ?_⟩
    refine sbslice hS Tryz.underlying39 Tryz.sizeOf3 rfl Tryz.zeroValue3 rfl (.cons rfl rfl .nil) rfl ?_; clear hS; intro b22 w hS
    refine nil ?_
    refine ⟨fun _ => (hS.at b7), ?_⟩
    show wpA _ _ _ _ _ _ _ _ _ _
    show wpA _ _ _ _ _ _ _ _ _ _
    refine a_step (i := 1) (is := [10]) (by kernel_rfl) ⟨?_, ?_, trivial⟩
    ·
     refine ⟨_, rfl, ?_⟩
     refine sv (yLdB rfl Tryz.isAgg39 (hS.at _) rfl) ?_
     refine nil ?_
     refine ⟨fun _ => (hS.at b7), ?_⟩
     show wpA _ _ _ _ _ _ _ _ _ _
     show wpA _ _ _ _ _ _ _ _ _ _
     refine a_step (i := 5) (is := [10]) (by kernel_rfl) ⟨?_, ?_, trivial⟩
     ·
      refine ⟨_, rfl, ?_⟩
      refine sapp (bytes := 8) (size := 1) (v := lv) (m := 1) hS rfl rfl Tryz.underlying39 ti3 rfl rfl rfl rfl (by decide) (blk_cells (hS.at _)) rfl rfl (by omega) (by omega) ?_; clear hS; intro v23 w hS
      refine nil ?_
      refine ⟨fun _ => (hS.at b7), ?_⟩
      show wpA _ _ _ _ _ _ _ _ _ _
      refine f_step 12 (by kernel_rfl) rfl (fun c a a' w h => by obtain ⟨_, v, hv, _⟩ := h; cases hv) (hS.at b7) (fun w hS => (fa41_1 h4)) ?_
      show wpA _ _ _ _ _ _ _ _ _ _
      refine a_step (i := 10) (is := []) (by kernel_rfl) ⟨?_, trivial⟩
      refine ⟨_, rfl, ?_⟩
      refine sbslice hS Tryz.underlying39 Tryz.sizeOf3 rfl Tryz.zeroValue3 rfl (.cons rfl rfl .nil) rfl ?_; clear hS; intro b28 w hS
      refine nil ?_
      refine ⟨fun _ => (hS.at b7), ?_⟩
      show wpA _ _ _ _ _ _ _ _ _ _
      show wpA _ _ _ _ _ _ _ _ _ _
      refine a_step (i := 11) (is := []) (by kernel_rfl) ⟨?_, trivial⟩
      refine ⟨_, rfl, ?_⟩
      refine sapp (bytes := 8) (size := 1) (v := hv) (m := 1) hS rfl rfl Tryz.underlying39 ti3 rfl rfl rfl rfl (by decide) (blk_cells (hS.at _)) rfl rfl (by omega) (by omega) ?_; clear hS; intro v29 w hS
      refine nil ?_
      refine ⟨fun _ => (hS.at b7), ?_⟩
      show wpA _ _ _ _ _ _ _ _ _ _
      show wpA _ _ _ _ _ _ _ _ _ _
      refine a_step (i := 13) (is := []) (by kernel_rfl) ⟨?_, trivial⟩
      refine ⟨_, rfl, ?_⟩
      obtain ⟨a23, c23, rfl⟩ := row_shape (hS.row v23)
      refine sst hS rfl rfl Tryz.sizeOf39 rfl rfl rfl rfl ?_; clear hS; intro w hS
      refine nil ?_
      refine ⟨fun _ => (hS.at b7), ?_⟩
      show wpA _ _ _ _ _ _ _ _ _ _
      refine f_step 14 (by kernel_rfl) rfl (fun c a a' w h => by obtain ⟨_, v, hv, _⟩ := h; cases hv) (hS.at b7) (fun w hS => (fa41_1 h5)) ?_
      show wpA _ _ _ _ _ _ _ _ _ _
      refine a_step (i := 15) (is := []) (by kernel_rfl) ⟨?_, trivial⟩
      refine ⟨_, rfl, ?_⟩
      obtain ⟨a29, c29, rfl⟩ := row_shape (hS.row v29)
      refine sst hS rfl rfl Tryz.sizeOf39 rfl rfl rfl rfl ?_; clear hS; intro w hS
      refine nil ?_
      refine ⟨fun _ => (hS.at b7), ?_⟩
      show wpA _ _ _ _ _ _ _ _ _ _
      refine a_end (by kernel_rfl) ?_
      show Code.wp _ _ _ _ _
      refine region ?_
      refine sv (yAdd h14 rfl ⟨by omega, by omega⟩) ?_
      refine sv (yMove rfl) ?_
      refine nil ?_
      exact ⟨_, _, rfl, ⟨k + 1, _, _, h0, h4, h5, h12, h13, rfl, (by rw [take_snoc (show (losS l)[k]? = some (spn l k).lo by simp [losS, spn_get hkl]), take_snoc (show (hisS l)[k]? = some (spn l k).hi by simp [hisS, spn_get hkl]), List.flatMap_append, List.flatMap_append]; first | exact hS.sub (.cons _ (.cons _ (.cons _ (List.Sublist.refl _)))) | exact (hS.sub (.cons _ (.cons _ (.cons _ (List.Sublist.refl _))))).perm (List.Perm.swap _ _ _)), (by omega), rfl⟩, by omega⟩
     ·
      refine ⟨_, rfl, ?_⟩
      refine sbslice hS Tryz.underlying39 Tryz.sizeOf3 rfl Tryz.zeroValue3 rfl (.cons rfl rfl .nil) rfl ?_; clear hS; intro b28 w hS
      refine nil ?_
      refine ⟨fun _ => (hS.at b7), ?_⟩
      show wpA _ _ _ _ _ _ _ _ _ _
      show wpA _ _ _ _ _ _ _ _ _ _
      refine a_step (i := 5) (is := []) (by kernel_rfl) ⟨?_, trivial⟩
      refine ⟨_, rfl, ?_⟩
      refine sapp (bytes := 8) (size := 1) (v := lv) (m := 1) hS rfl rfl Tryz.underlying39 ti3 rfl rfl rfl rfl (by decide) (blk_cells (hS.at _)) rfl rfl (by omega) (by omega) ?_; clear hS; intro v23 w hS
      refine nil ?_
      refine ⟨fun _ => (hS.at b7), ?_⟩
      show wpA _ _ _ _ _ _ _ _ _ _
      refine f_step 12 (by kernel_rfl) rfl (fun c a a' w h => by obtain ⟨_, v, hv, _⟩ := h; cases hv) (hS.at b7) (fun w hS => (fa41_1 h4)) ?_
      show wpA _ _ _ _ _ _ _ _ _ _
      refine a_step (i := 11) (is := []) (by kernel_rfl) ⟨?_, trivial⟩
      refine ⟨_, rfl, ?_⟩
      refine sapp (bytes := 8) (size := 1) (v := hv) (m := 1) hS rfl rfl Tryz.underlying39 ti3 rfl rfl rfl rfl (by decide) (blk_cells (hS.at _)) rfl rfl (by omega) (by omega) ?_; clear hS; intro v29 w hS
      refine nil ?_
      refine ⟨fun _ => (hS.at b7), ?_⟩
      show wpA _ _ _ _ _ _ _ _ _ _
      show wpA _ _ _ _ _ _ _ _ _ _
      refine a_step (i := 13) (is := []) (by kernel_rfl) ⟨?_, trivial⟩
      refine ⟨_, rfl, ?_⟩
      obtain ⟨a23, c23, rfl⟩ := row_shape (hS.row v23)
      refine sst hS rfl rfl Tryz.sizeOf39 rfl rfl rfl rfl ?_; clear hS; intro w hS
      refine nil ?_
      refine ⟨fun _ => (hS.at b7), ?_⟩
      show wpA _ _ _ _ _ _ _ _ _ _
      refine f_step 14 (by kernel_rfl) rfl (fun c a a' w h => by obtain ⟨_, v, hv, _⟩ := h; cases hv) (hS.at b7) (fun w hS => (fa41_1 h5)) ?_
      show wpA _ _ _ _ _ _ _ _ _ _
      refine a_step (i := 15) (is := []) (by kernel_rfl) ⟨?_, trivial⟩
      refine ⟨_, rfl, ?_⟩
      obtain ⟨a29, c29, rfl⟩ := row_shape (hS.row v29)
      refine sst hS rfl rfl Tryz.sizeOf39 rfl rfl rfl rfl ?_; clear hS; intro w hS
      refine nil ?_
      refine ⟨fun _ => (hS.at b7), ?_⟩
      show wpA _ _ _ _ _ _ _ _ _ _
      refine a_end (by kernel_rfl) ?_
      show Code.wp _ _ _ _ _
      refine region ?_
      refine sv (yAdd h14 rfl ⟨by omega, by omega⟩) ?_
      refine sv (yMove rfl) ?_
      refine nil ?_
      exact ⟨_, _, rfl, ⟨k + 1, _, _, h0, h4, h5, h12, h13, rfl, (by rw [take_snoc (show (losS l)[k]? = some (spn l k).lo by simp [losS, spn_get hkl]), take_snoc (show (hisS l)[k]? = some (spn l k).hi by simp [hisS, spn_get hkl]), List.flatMap_append, List.flatMap_append]; first | exact hS.sub (.cons _ (.cons _ (.cons _ (List.Sublist.refl _)))) | exact (hS.sub (.cons _ (.cons _ (.cons _ (List.Sublist.refl _))))).perm (List.Perm.swap _ _ _)), (by omega), rfl⟩, by omega⟩
    ·
     refine ⟨_, rfl, ?_⟩
     refine sbslice hS Tryz.underlying39 Tryz.sizeOf3 rfl Tryz.zeroValue3 rfl (.cons rfl rfl .nil) rfl ?_; clear hS; intro b28 w hS
     refine nil ?_
     refine ⟨fun _ => (hS.at b7), ?_⟩
     show wpA _ _ _ _ _ _ _ _ _ _
     show wpA _ _ _ _ _ _ _ _ _ _
     refine a_step (i := 1) (is := []) (by kernel_rfl) ⟨?_, trivial⟩
     refine ⟨_, rfl, ?_⟩
     refine sv (yLdB rfl Tryz.isAgg39 (hS.at _) rfl) ?_
     refine nil ?_
     refine ⟨fun _ => (hS.at b7), ?_⟩
     show wpA _ _ _ _ _ _ _ _ _ _
     show wpA _ _ _ _ _ _ _ _ _ _
     refine a_step (i := 5) (is := []) (by kernel_rfl) ⟨?_, trivial⟩
     refine ⟨_, rfl, ?_⟩
     refine sapp (bytes := 8) (size := 1) (v := lv) (m := 1) hS rfl rfl Tryz.underlying39 ti3 rfl rfl rfl rfl (by decide) (blk_cells (hS.at _)) rfl rfl (by omega) (by omega) ?_; clear hS; intro v23 w hS
     refine nil ?_
     refine ⟨fun _ => (hS.at b7), ?_⟩
     show wpA _ _ _ _ _ _ _ _ _ _
     refine f_step 12 (by kernel_rfl) rfl (fun c a a' w h => by obtain ⟨_, v, hv, _⟩ := h; cases hv) (hS.at b7) (fun w hS => (fa41_1 h4)) ?_
     show wpA _ _ _ _ _ _ _ _ _ _
     refine a_step (i := 11) (is := []) (by kernel_rfl) ⟨?_, trivial⟩
     refine ⟨_, rfl, ?_⟩
     refine sapp (bytes := 8) (size := 1) (v := hv) (m := 1) hS rfl rfl Tryz.underlying39 ti3 rfl rfl rfl rfl (by decide) (blk_cells (hS.at _)) rfl rfl (by omega) (by omega) ?_; clear hS; intro v29 w hS
     refine nil ?_
     refine ⟨fun _ => (hS.at b7), ?_⟩
     show wpA _ _ _ _ _ _ _ _ _ _
     show wpA _ _ _ _ _ _ _ _ _ _
     refine a_step (i := 13) (is := []) (by kernel_rfl) ⟨?_, trivial⟩
     refine ⟨_, rfl, ?_⟩
     obtain ⟨a23, c23, rfl⟩ := row_shape (hS.row v23)
     refine sst hS rfl rfl Tryz.sizeOf39 rfl rfl rfl rfl ?_; clear hS; intro w hS
     refine nil ?_
     refine ⟨fun _ => (hS.at b7), ?_⟩
     show wpA _ _ _ _ _ _ _ _ _ _
     refine f_step 14 (by kernel_rfl) rfl (fun c a a' w h => by obtain ⟨_, v, hv, _⟩ := h; cases hv) (hS.at b7) (fun w hS => (fa41_1 h5)) ?_
     show wpA _ _ _ _ _ _ _ _ _ _
     refine a_step (i := 15) (is := []) (by kernel_rfl) ⟨?_, trivial⟩
     refine ⟨_, rfl, ?_⟩
     obtain ⟨a29, c29, rfl⟩ := row_shape (hS.row v29)
     refine sst hS rfl rfl Tryz.sizeOf39 rfl rfl rfl rfl ?_; clear hS; intro w hS
     refine nil ?_
     refine ⟨fun _ => (hS.at b7), ?_⟩
     show wpA _ _ _ _ _ _ _ _ _ _
     refine a_end (by kernel_rfl) ?_
     show Code.wp _ _ _ _ _
     refine region ?_
     refine sv (yAdd h14 rfl ⟨by omega, by omega⟩) ?_
     refine sv (yMove rfl) ?_
     refine nil ?_
     exact ⟨_, _, rfl, ⟨k + 1, _, _, h0, h4, h5, h12, h13, rfl, (by rw [take_snoc (show (losS l)[k]? = some (spn l k).lo by simp [losS, spn_get hkl]), take_snoc (show (hisS l)[k]? = some (spn l k).hi by simp [hisS, spn_get hkl]), List.flatMap_append, List.flatMap_append]; first | exact hS.sub (.cons _ (.cons _ (.cons _ (List.Sublist.refl _)))) | exact (hS.sub (.cons _ (.cons _ (.cons _ (List.Sublist.refl _))))).perm (List.Perm.swap _ _ _)), (by omega), rfl⟩, by omega⟩
   ·
    refine ⟨_, rfl, ?_⟩
    refine sbslice hS Tryz.underlying39 Tryz.sizeOf3 rfl Tryz.zeroValue3 rfl (.cons rfl rfl .nil) rfl ?_; clear hS; intro b28 w hS
    refine nil ?_
    refine ⟨fun _ => (hS.at b7), ?_⟩
    show wpA _ _ _ _ _ _ _ _ _ _
    show wpA _ _ _ _ _ _ _ _ _ _
    refine a_step (i := 1) (is := [4]) (by kernel_rfl) ⟨?_, ?_, trivial⟩
    ·
     refine ⟨_, rfl, ?_⟩
     refine sv (yLdB rfl Tryz.isAgg39 (hS.at _) rfl) ?_
     refine nil ?_
     refine ⟨fun _ => (hS.at b7), ?_⟩
     show wpA _ _ _ _ _ _ _ _ _ _
     show wpA _ _ _ _ _ _ _ _ _ _
     refine a_step (i := 4) (is := []) (by kernel_rfl) ⟨?_, trivial⟩
     refine ⟨_, rfl, ?_⟩
     refine sbslice hS Tryz.underlying39 Tryz.sizeOf3 rfl Tryz.zeroValue3 rfl (.cons rfl rfl .nil) rfl ?_; clear hS; intro b22 w hS
     refine nil ?_
     refine ⟨fun _ => (hS.at b7), ?_⟩
     show wpA _ _ _ _ _ _ _ _ _ _
     show wpA _ _ _ _ _ _ _ _ _ _
     refine a_step (i := 5) (is := []) (by kernel_rfl) ⟨?_, trivial⟩
     refine ⟨_, rfl, ?_⟩
     refine sapp (bytes := 8) (size := 1) (v := lv) (m := 1) hS rfl rfl Tryz.underlying39 ti3 rfl rfl rfl rfl (by decide) (blk_cells (hS.at _)) rfl rfl (by omega) (by omega) ?_; clear hS; intro v23 w hS
     refine nil ?_
     refine ⟨fun _ => (hS.at b7), ?_⟩
     show wpA _ _ _ _ _ _ _ _ _ _
     refine f_step 12 (by kernel_rfl) rfl (fun c a a' w h => by obtain ⟨_, v, hv, _⟩ := h; cases hv) (hS.at b7) (fun w hS => (fa41_1 h4)) ?_
     show wpA _ _ _ _ _ _ _ _ _ _
     refine a_step (i := 11) (is := []) (by kernel_rfl) ⟨?_, trivial⟩
     refine ⟨_, rfl, ?_⟩
     refine sapp (bytes := 8) (size := 1) (v := hv) (m := 1) hS rfl rfl Tryz.underlying39 ti3 rfl rfl rfl rfl (by decide) (blk_cells (hS.at _)) rfl rfl (by omega) (by omega) ?_; clear hS; intro v29 w hS
     refine nil ?_
     refine ⟨fun _ => (hS.at b7), ?_⟩
     show wpA _ _ _ _ _ _ _ _ _ _
     show wpA _ _ _ _ _ _ _ _ _ _
     refine a_step (i := 13) (is := []) (by kernel_rfl) ⟨?_, trivial⟩
     refine ⟨_, rfl, ?_⟩
     obtain ⟨a23, c23, rfl⟩ := row_shape (hS.row v23)
     refine sst hS rfl rfl Tryz.sizeOf39 rfl rfl rfl rfl ?_; clear hS; intro w hS
     refine nil ?_
     refine ⟨fun _ => (hS.at b7), ?_⟩
     show wpA _ _ _ _ _ _ _ _ _ _
     refine f_step 14 (by kernel_rfl) rfl (fun c a a' w h => by obtain ⟨_, v, hv, _⟩ := h; cases hv) (hS.at b7) (fun w hS => (fa41_1 h5)) ?_
     show wpA _ _ _ _ _ _ _ _ _ _
     refine a_step (i := 15) (is := []) (by kernel_rfl) ⟨?_, trivial⟩
     refine ⟨_, rfl, ?_⟩
     obtain ⟨a29, c29, rfl⟩ := row_shape (hS.row v29)
     refine sst hS rfl rfl Tryz.sizeOf39 rfl rfl rfl rfl ?_; clear hS; intro w hS
     refine nil ?_
     refine ⟨fun _ => (hS.at b7), ?_⟩
     show wpA _ _ _ _ _ _ _ _ _ _
     refine a_end (by kernel_rfl) ?_
     show Code.wp _ _ _ _ _
     refine region ?_
     refine sv (yAdd h14 rfl ⟨by omega, by omega⟩) ?_
     refine sv (yMove rfl) ?_
     refine nil ?_
     exact ⟨_, _, rfl, ⟨k + 1, _, _, h0, h4, h5, h12, h13, rfl, (by rw [take_snoc (show (losS l)[k]? = some (spn l k).lo by simp [losS, spn_get hkl]), take_snoc (show (hisS l)[k]? = some (spn l k).hi by simp [hisS, spn_get hkl]), List.flatMap_append, List.flatMap_append]; first | exact hS.sub (.cons _ (.cons _ (.cons _ (List.Sublist.refl _)))) | exact (hS.sub (.cons _ (.cons _ (.cons _ (List.Sublist.refl _))))).perm (List.Perm.swap _ _ _)), (by omega), rfl⟩, by omega⟩
    ·
     refine ⟨_, rfl, ?_⟩
     refine sbslice hS Tryz.underlying39 Tryz.sizeOf3 rfl Tryz.zeroValue3 rfl (.cons rfl rfl .nil) rfl ?_; clear hS; intro b22 w hS
     refine nil ?_
     refine ⟨fun _ => (hS.at b7), ?_⟩
     show wpA _ _ _ _ _ _ _ _ _ _
     show wpA _ _ _ _ _ _ _ _ _ _
     refine a_step (i := 1) (is := []) (by kernel_rfl) ⟨?_, trivial⟩
     refine ⟨_, rfl, ?_⟩
     refine sv (yLdB rfl Tryz.isAgg39 (hS.at _) rfl) ?_
     refine nil ?_
     refine ⟨fun _ => (hS.at b7), ?_⟩
     show wpA _ _ _ _ _ _ _ _ _ _
     show wpA _ _ _ _ _ _ _ _ _ _
     refine a_step (i := 5) (is := []) (by kernel_rfl) ⟨?_, trivial⟩
     refine ⟨_, rfl, ?_⟩
     refine sapp (bytes := 8) (size := 1) (v := lv) (m := 1) hS rfl rfl Tryz.underlying39 ti3 rfl rfl rfl rfl (by decide) (blk_cells (hS.at _)) rfl rfl (by omega) (by omega) ?_; clear hS; intro v23 w hS
     refine nil ?_
     refine ⟨fun _ => (hS.at b7), ?_⟩
     show wpA _ _ _ _ _ _ _ _ _ _
     refine f_step 12 (by kernel_rfl) rfl (fun c a a' w h => by obtain ⟨_, v, hv, _⟩ := h; cases hv) (hS.at b7) (fun w hS => (fa41_1 h4)) ?_
     show wpA _ _ _ _ _ _ _ _ _ _
     refine a_step (i := 11) (is := []) (by kernel_rfl) ⟨?_, trivial⟩
     refine ⟨_, rfl, ?_⟩
     refine sapp (bytes := 8) (size := 1) (v := hv) (m := 1) hS rfl rfl Tryz.underlying39 ti3 rfl rfl rfl rfl (by decide) (blk_cells (hS.at _)) rfl rfl (by omega) (by omega) ?_; clear hS; intro v29 w hS
     refine nil ?_
     refine ⟨fun _ => (hS.at b7), ?_⟩
     show wpA _ _ _ _ _ _ _ _ _ _
     show wpA _ _ _ _ _ _ _ _ _ _
     refine a_step (i := 13) (is := []) (by kernel_rfl) ⟨?_, trivial⟩
     refine ⟨_, rfl, ?_⟩
     obtain ⟨a23, c23, rfl⟩ := row_shape (hS.row v23)
     refine sst hS rfl rfl Tryz.sizeOf39 rfl rfl rfl rfl ?_; clear hS; intro w hS
     refine nil ?_
     refine ⟨fun _ => (hS.at b7), ?_⟩
     show wpA _ _ _ _ _ _ _ _ _ _
     refine f_step 14 (by kernel_rfl) rfl (fun c a a' w h => by obtain ⟨_, v, hv, _⟩ := h; cases hv) (hS.at b7) (fun w hS => (fa41_1 h5)) ?_
     show wpA _ _ _ _ _ _ _ _ _ _
     refine a_step (i := 15) (is := []) (by kernel_rfl) ⟨?_, trivial⟩
     refine ⟨_, rfl, ?_⟩
     obtain ⟨a29, c29, rfl⟩ := row_shape (hS.row v29)
     refine sst hS rfl rfl Tryz.sizeOf39 rfl rfl rfl rfl ?_; clear hS; intro w hS
     refine nil ?_
     refine ⟨fun _ => (hS.at b7), ?_⟩
     show wpA _ _ _ _ _ _ _ _ _ _
     refine a_end (by kernel_rfl) ?_
     show Code.wp _ _ _ _ _
     refine region ?_
     refine sv (yAdd h14 rfl ⟨by omega, by omega⟩) ?_
     refine sv (yMove rfl) ?_
     refine nil ?_
     exact ⟨_, _, rfl, ⟨k + 1, _, _, h0, h4, h5, h12, h13, rfl, (by rw [take_snoc (show (losS l)[k]? = some (spn l k).lo by simp [losS, spn_get hkl]), take_snoc (show (hisS l)[k]? = some (spn l k).hi by simp [hisS, spn_get hkl]), List.flatMap_append, List.flatMap_append]; first | exact hS.sub (.cons _ (.cons _ (.cons _ (List.Sublist.refl _)))) | exact (hS.sub (.cons _ (.cons _ (.cons _ (List.Sublist.refl _))))).perm (List.Perm.swap _ _ _)), (by omega), rfl⟩, by omega⟩
  ·
   refine ⟨_, rfl, ?_⟩
   refine sbslice hS Tryz.underlying39 Tryz.sizeOf3 rfl Tryz.zeroValue3 rfl (.cons rfl rfl .nil) rfl ?_; clear hS; intro b28 w hS
   refine nil ?_
   refine ⟨fun _ => (hS.at b7), ?_⟩
   show wpA _ _ _ _ _ _ _ _ _ _
   show wpA _ _ _ _ _ _ _ _ _ _
   refine a_step (i := 1) (is := [4, 7]) (by kernel_rfl) ⟨?_, ?_, ?_, trivial⟩
   ·
    refine ⟨_, rfl, ?_⟩
    refine sv (yLdB rfl Tryz.isAgg39 (hS.at _) rfl) ?_
    refine nil ?_
    refine ⟨fun _ => (hS.at b7), ?_⟩
    show wpA _ _ _ _ _ _ _ _ _ _
    show wpA _ _ _ _ _ _ _ _ _ _
    refine a_step (i := 4) (is := [7]) (by kernel_rfl) ⟨?_, ?_, trivial⟩
    ·
     refine ⟨_, rfl, ?_⟩
     refine sbslice hS Tryz.underlying39 Tryz.sizeOf3 rfl Tryz.zeroValue3 rfl (.cons rfl rfl .nil) rfl ?_; clear hS; intro b22 w hS
     refine nil ?_
     refine ⟨fun _ => (hS.at b7), ?_⟩
     show wpA _ _ _ _ _ _ _ _ _ _
     show wpA _ _ _ _ _ _ _ _ _ _
     refine a_step (i := 5) (is := [7]) (by kernel_rfl) ⟨?_, ?_, trivial⟩
     ·
      refine ⟨_, rfl, ?_⟩
      refine sapp (bytes := 8) (size := 1) (v := lv) (m := 1) hS rfl rfl Tryz.underlying39 ti3 rfl rfl rfl rfl (by decide) (blk_cells (hS.at _)) rfl rfl (by omega) (by omega) ?_; clear hS; intro v23 w hS
      refine nil ?_
      refine ⟨fun _ => (hS.at b7), ?_⟩
      show wpA _ _ _ _ _ _ _ _ _ _
      refine f_step 12 (by kernel_rfl) rfl (fun c a a' w h => by obtain ⟨_, v, hv, _⟩ := h; cases hv) (hS.at b7) (fun w hS => (fa41_1 h4)) ?_
      show wpA _ _ _ _ _ _ _ _ _ _
      refine a_step (i := 7) (is := []) (by kernel_rfl) ⟨?_, trivial⟩
      refine ⟨_, rfl, ?_⟩
      refine sv (yLdB rfl Tryz.isAgg39 (hS.at _) rfl) ?_
      refine nil ?_
      refine ⟨fun _ => (hS.at b7), ?_⟩
      show wpA _ _ _ _ _ _ _ _ _ _
      show wpA _ _ _ _ _ _ _ _ _ _
      refine a_step (i := 11) (is := []) (by kernel_rfl) ⟨?_, trivial⟩
      refine ⟨_, rfl, ?_⟩
      refine sapp (bytes := 8) (size := 1) (v := hv) (m := 1) hS rfl rfl Tryz.underlying39 ti3 rfl rfl rfl rfl (by decide) (blk_cells (hS.at _)) rfl rfl (by omega) (by omega) ?_; clear hS; intro v29 w hS
      refine nil ?_
      refine ⟨fun _ => (hS.at b7), ?_⟩
      show wpA _ _ _ _ _ _ _ _ _ _
      show wpA _ _ _ _ _ _ _ _ _ _
      refine a_step (i := 13) (is := []) (by kernel_rfl) ⟨?_, trivial⟩
      refine ⟨_, rfl, ?_⟩
      obtain ⟨a23, c23, rfl⟩ := row_shape (hS.row v23)
      refine sst hS rfl rfl Tryz.sizeOf39 rfl rfl rfl rfl ?_; clear hS; intro w hS
      refine nil ?_
      refine ⟨fun _ => (hS.at b7), ?_⟩
      show wpA _ _ _ _ _ _ _ _ _ _
      refine f_step 14 (by kernel_rfl) rfl (fun c a a' w h => by obtain ⟨_, v, hv, _⟩ := h; cases hv) (hS.at b7) (fun w hS => (fa41_1 h5)) ?_
      show wpA _ _ _ _ _ _ _ _ _ _
      refine a_step (i := 15) (is := []) (by kernel_rfl) ⟨?_, trivial⟩
      refine ⟨_, rfl, ?_⟩
      obtain ⟨a29, c29, rfl⟩ := row_shape (hS.row v29)
      refine sst hS rfl rfl Tryz.sizeOf39 rfl rfl rfl rfl ?_; clear hS; intro w hS
      refine nil ?_
      refine ⟨fun _ => (hS.at b7), ?_⟩
      show wpA _ _ _ _ _ _ _ _ _ _
      refine a_end (by kernel_rfl) ?_
      show Code.wp _ _ _ _ _
      refine region ?_
      refine sv (yAdd h14 rfl ⟨by omega, by omega⟩) ?_
      refine sv (yMove rfl) ?_
      refine nil ?_
      exact ⟨_, _, rfl, ⟨k + 1, _, _, h0, h4, h5, h12, h13, rfl, (by rw [take_snoc (show (losS l)[k]? = some (spn l k).lo by simp [losS, spn_get hkl]), take_snoc (show (hisS l)[k]? = some (spn l k).hi by simp [hisS, spn_get hkl]), List.flatMap_append, List.flatMap_append]; first | exact hS.sub (.cons _ (.cons _ (.cons _ (List.Sublist.refl _)))) | exact (hS.sub (.cons _ (.cons _ (.cons _ (List.Sublist.refl _))))).perm (List.Perm.swap _ _ _)), (by omega), rfl⟩, by omega⟩
     ·
      refine ⟨_, rfl, ?_⟩
      refine sv (yLdB rfl Tryz.isAgg39 (hS.at _) rfl) ?_
      refine nil ?_
      refine ⟨fun _ => (hS.at b7), ?_⟩
      show wpA _ _ _ _ _ _ _ _ _ _
      show wpA _ _ _ _ _ _ _ _ _ _
      refine a_step (i := 5) (is := []) (by kernel_rfl) ⟨?_, trivial⟩
      refine ⟨_, rfl, ?_⟩
      refine sapp (bytes := 8) (size := 1) (v := lv) (m := 1) hS rfl rfl Tryz.underlying39 ti3 rfl rfl rfl rfl (by decide) (blk_cells (hS.at _)) rfl rfl (by omega) (by omega) ?_; clear hS; intro v23 w hS
      refine nil ?_
      refine ⟨fun _ => (hS.at b7), ?_⟩
      show wpA _ _ _ _ _ _ _ _ _ _
      refine f_step 12 (by kernel_rfl) rfl (fun c a a' w h => by obtain ⟨_, v, hv, _⟩ := h; cases hv) (hS.at b7) (fun w hS => (fa41_1 h4)) ?_
      show wpA _ _ _ _ _ _ _ _ _ _
      refine a_step (i := 11) (is := []) (by kernel_rfl) ⟨?_, trivial⟩
      refine ⟨_, rfl, ?_⟩
      refine sapp (bytes := 8) (size := 1) (v := hv) (m := 1) hS rfl rfl Tryz.underlying39 ti3 rfl rfl rfl rfl (by decide) (blk_cells (hS.at _)) rfl rfl (by omega) (by omega) ?_; clear hS; intro v29 w hS
      refine nil ?_
      refine ⟨fun _ => (hS.at b7), ?_⟩
      show wpA _ _ _ _ _ _ _ _ _ _
      show wpA _ _ _ _ _ _ _ _ _ _
      refine a_step (i := 13) (is := []) (by kernel_rfl) ⟨?_, trivial⟩
      refine ⟨_, rfl, ?_⟩
      obtain ⟨a23, c23, rfl⟩ := row_shape (hS.row v23)
      refine sst hS rfl rfl Tryz.sizeOf39 rfl rfl rfl rfl ?_; clear hS; intro w hS
      refine nil ?_
      refine ⟨fun _ => (hS.at b7), ?_⟩
      show wpA _ _ _ _ _ _ _ _ _ _
      refine f_step 14 (by kernel_rfl) rfl (fun c a a' w h => by obtain ⟨_, v, hv, _⟩ := h; cases hv) (hS.at b7) (fun w hS => (fa41_1 h5)) ?_
      show wpA _ _ _ _ _ _ _ _ _ _
      refine a_step (i := 15) (is := []) (by kernel_rfl) ⟨?_, trivial⟩
      refine ⟨_, rfl, ?_⟩
      obtain ⟨a29, c29, rfl⟩ := row_shape (hS.row v29)
      refine sst hS rfl rfl Tryz.sizeOf39 rfl rfl rfl rfl ?_; clear hS; intro w hS
      refine nil ?_
      refine ⟨fun _ => (hS.at b7), ?_⟩
      show wpA _ _ _ _ _ _ _ _ _ _
      refine a_end (by kernel_rfl) ?_
      show Code.wp _ _ _ _ _
      refine region ?_
      refine sv (yAdd h14 rfl ⟨by omega, by omega⟩) ?_
      refine sv (yMove rfl) ?_
      refine nil ?_
      exact ⟨_, _, rfl, ⟨k + 1, _, _, h0, h4, h5, h12, h13, rfl, (by rw [take_snoc (show (losS l)[k]? = some (spn l k).lo by simp [losS, spn_get hkl]), take_snoc (show (hisS l)[k]? = some (spn l k).hi by simp [hisS, spn_get hkl]), List.flatMap_append, List.flatMap_append]; first | exact hS.sub (.cons _ (.cons _ (.cons _ (List.Sublist.refl _)))) | exact (hS.sub (.cons _ (.cons _ (.cons _ (List.Sublist.refl _))))).perm (List.Perm.swap _ _ _)), (by omega), rfl⟩, by omega⟩
    ·
     refine ⟨_, rfl, ?_⟩
     refine sv (yLdB rfl Tryz.isAgg39 (hS.at _) rfl) ?_
     refine nil ?_
     refine ⟨fun _ => (hS.at b7), ?_⟩
     show wpA _ _ _ _ _ _ _ _ _ _
     show wpA _ _ _ _ _ _ _ _ _ _
     refine a_step (i := 4) (is := []) (by kernel_rfl) ⟨?_, trivial⟩
     refine ⟨_, rfl, ?_⟩
     refine sbslice hS Tryz.underlying39 Tryz.sizeOf3 rfl Tryz.zeroValue3 rfl (.cons rfl rfl .nil) rfl ?_; clear hS; intro b22 w hS
     refine nil ?_
     refine ⟨fun _ => (hS.at b7), ?_⟩
     show wpA _ _ _ _ _ _ _ _ _ _
     show wpA _ _ _ _ _ _ _ _ _ _
     refine a_step (i := 5) (is := []) (by kernel_rfl) ⟨?_, trivial⟩
     refine ⟨_, rfl, ?_⟩
     refine sapp (bytes := 8) (size := 1) (v := lv) (m := 1) hS rfl rfl Tryz.underlying39 ti3 rfl rfl rfl rfl (by decide) (blk_cells (hS.at _)) rfl rfl (by omega) (by omega) ?_; clear hS; intro v23 w hS
     refine nil ?_
     refine ⟨fun _ => (hS.at b7), ?_⟩
     show wpA _ _ _ _ _ _ _ _ _ _
     refine f_step 12 (by kernel_rfl) rfl (fun c a a' w h => by obtain ⟨_, v, hv, _⟩ := h; cases hv) (hS.at b7) (fun w hS => (fa41_1 h4)) ?_
     show wpA _ _ _ _ _ _ _ _ _ _
     refine a_step (i := 11) (is := []) (by kernel_rfl) ⟨?_, trivial⟩
     refine ⟨_, rfl, ?_⟩
     refine sapp (bytes := 8) (size := 1) (v := hv) (m := 1) hS rfl rfl Tryz.underlying39 ti3 rfl rfl rfl rfl (by decide) (blk_cells (hS.at _)) rfl rfl (by omega) (by omega) ?_; clear hS; intro v29 w hS
     refine nil ?_
     refine ⟨fun _ => (hS.at b7), ?_⟩
     show wpA _ _ _ _ _ _ _ _ _ _
     show wpA _ _ _ _ _ _ _ _ _ _
     refine a_step (i := 13) (is := []) (by kernel_rfl) ⟨?_, trivial⟩
     refine ⟨_, rfl, ?_⟩
     obtain ⟨a23, c23, rfl⟩ := row_shape (hS.row v23)
     refine sst hS rfl rfl Tryz.sizeOf39 rfl rfl rfl rfl ?_; clear hS; intro w hS
     refine nil ?_
     refine ⟨fun _ => (hS.at b7), ?_⟩
     show wpA _ _ _ _ _ _ _ _ _ _
     refine f_step 14 (by kernel_rfl) rfl (fun c a a' w h => by obtain ⟨_, v, hv, _⟩ := h; cases hv) (hS.at b7) (fun w hS => (fa41_1 h5)) ?_
     show wpA _ _ _ _ _ _ _ _ _ _
     refine a_step (i := 15) (is := []) (by kernel_rfl) ⟨?_, trivial⟩
     refine ⟨_, rfl, ?_⟩
     obtain ⟨a29, c29, rfl⟩ := row_shape (hS.row v29)
     refine sst hS rfl rfl Tryz.sizeOf39 rfl rfl rfl rfl ?_; clear hS; intro w hS
     refine nil ?_
     refine ⟨fun _ => (hS.at b7), ?_⟩
     show wpA _ _ _ _ _ _ _ _ _ _
     refine a_end (by kernel_rfl) ?_
     show Code.wp _ _ _ _ _
     refine region ?_
     refine sv (yAdd h14 rfl ⟨by omega, by omega⟩) ?_
     refine sv (yMove rfl) ?_
     refine nil ?_
     exact ⟨_, _, rfl, ⟨k + 1, _, _, h0, h4, h5, h12, h13, rfl, (by rw [take_snoc (show (losS l)[k]? = some (spn l k).lo by simp [losS, spn_get hkl]), take_snoc (show (hisS l)[k]? = some (spn l k).hi by simp [hisS, spn_get hkl]), List.flatMap_append, List.flatMap_append]; first | exact hS.sub (.cons _ (.cons _ (.cons _ (List.Sublist.refl _)))) | exact (hS.sub (.cons _ (.cons _ (.cons _ (List.Sublist.refl _))))).perm (List.Perm.swap _ _ _)), (by omega), rfl⟩, by omega⟩
   ·
    refine ⟨_, rfl, ?_⟩
    refine sbslice hS Tryz.underlying39 Tryz.sizeOf3 rfl Tryz.zeroValue3 rfl (.cons rfl rfl .nil) rfl ?_; clear hS; intro b22 w hS
    refine nil ?_
    refine ⟨fun _ => (hS.at b7), ?_⟩
    show wpA _ _ _ _ _ _ _ _ _ _
    show wpA _ _ _ _ _ _ _ _ _ _
    refine a_step (i := 1) (is := [7]) (by kernel_rfl) ⟨?_, ?_, trivial⟩
    ·
     refine ⟨_, rfl, ?_⟩
     refine sv (yLdB rfl Tryz.isAgg39 (hS.at _) rfl) ?_
     refine nil ?_
     refine ⟨fun _ => (hS.at b7), ?_⟩
     show wpA _ _ _ _ _ _ _ _ _ _
     show wpA _ _ _ _ _ _ _ _ _ _
     refine a_step (i := 5) (is := [7]) (by kernel_rfl) ⟨?_, ?_, trivial⟩
     ·
      refine ⟨_, rfl, ?_⟩
      refine sapp (bytes := 8) (size := 1) (v := lv) (m := 1) hS rfl rfl Tryz.underlying39 ti3 rfl rfl rfl rfl (by decide) (blk_cells (hS.at _)) rfl rfl (by omega) (by omega) ?_; clear hS; intro v23 w hS
      refine nil ?_
      refine ⟨fun _ => (hS.at b7), ?_⟩
      show wpA _ _ _ _ _ _ _ _ _ _
      refine f_step 12 (by kernel_rfl) rfl (fun c a a' w h => by obtain ⟨_, v, hv, _⟩ := h; cases hv) (hS.at b7) (fun w hS => (fa41_1 h4)) ?_
      show wpA _ _ _ _ _ _ _ _ _ _
      refine a_step (i := 7) (is := []) (by kernel_rfl) ⟨?_, trivial⟩
      refine ⟨_, rfl, ?_⟩
      refine sv (yLdB rfl Tryz.isAgg39 (hS.at _) rfl) ?_
      refine nil ?_
      refine ⟨fun _ => (hS.at b7), ?_⟩
      show wpA _ _ _ _ _ _ _ _ _ _
      show wpA _ _ _ _ _ _ _ _ _ _
      refine a_step (i := 11) (is := []) (by kernel_rfl) ⟨?_, trivial⟩
      refine ⟨_, rfl, ?_⟩
      refine sapp (bytes := 8) (size := 1) (v := hv) (m := 1) hS rfl rfl Tryz.underlying39 ti3 rfl rfl rfl rfl (by decide) (blk_cells (hS.at _)) rfl rfl (by omega) (by omega) ?_; clear hS; intro v29 w hS
      refine nil ?_
      refine ⟨fun _ => (hS.at b7), ?_⟩
      show wpA _ _ _ _ _ _ _ _ _ _
      show wpA _ _ _ _ _ _ _ _ _ _
      refine a_step (i := 13) (is := []) (by kernel_rfl) ⟨?_, trivial⟩
      refine ⟨_, rfl, ?_⟩
      obtain ⟨a23, c23, rfl⟩ := row_shape (hS.row v23)
      refine sst hS rfl rfl Tryz.sizeOf39 rfl rfl rfl rfl ?_; clear hS; intro w hS
      refine nil ?_
      refine ⟨fun _ => (hS.at b7), ?_⟩
      show wpA _ _ _ _ _ _ _ _ _ _
      refine f_step 14 (by kernel_rfl) rfl (fun c a a' w h => by obtain ⟨_, v, hv, _⟩ := h; cases hv) (hS.at b7) (fun w hS => (fa41_1 h5)) ?_
      show wpA _ _ _ _ _ _ _ _ _ _
      refine a_step (i := 15) (is := []) (by kernel_rfl) ⟨?_, trivial⟩
      refine ⟨_, rfl, ?_⟩
      obtain ⟨a29, c29, rfl⟩ := row_shape (hS.row v29)
      refine sst hS rfl rfl Tryz.sizeOf39 rfl rfl rfl rfl ?_; clear hS; intro w hS
      refine nil ?_
      refine ⟨fun _ => (hS.at b7), ?_⟩
      show wpA _ _ _ _ _ _ _ _ _ _
      refine a_end (by kernel_rfl) ?_
      show Code.wp _ _ _ _ _
      refine region ?_
      refine sv (yAdd h14 rfl ⟨by omega, by omega⟩) ?_
      refine sv (yMove rfl) ?_
      refine nil ?_
      exact ⟨_, _, rfl, ⟨k + 1, _, _, h0, h4, h5, h12, h13, rfl, (by rw [take_snoc (show (losS l)[k]? = some (spn l k).lo by simp [losS, spn_get hkl]), take_snoc (show (hisS l)[k]? = some (spn l k).hi by simp [hisS, spn_get hkl]), List.flatMap_append, List.flatMap_append]; first | exact hS.sub (.cons _ (.cons _ (.cons _ (List.Sublist.refl _)))) | exact (hS.sub (.cons _ (.cons _ (.cons _ (List.Sublist.refl _))))).perm (List.Perm.swap _ _ _)), (by omega), rfl⟩, by omega⟩
     ·
      refine ⟨_, rfl, ?_⟩
      refine sv (yLdB rfl Tryz.isAgg39 (hS.at _) rfl) ?_
      refine nil ?_
      refine ⟨fun _ => (hS.at b7), ?_⟩
      show wpA _ _ _ _ _ _ _ _ _ _
      show wpA _ _ _ _ _ _ _ _ _ _
      refine a_step (i := 5) (is := []) (by kernel_rfl) ⟨?_, trivial⟩
      refine ⟨_, rfl, ?_⟩
      refine sapp (bytes := 8) (size := 1) (v := lv) (m := 1) hS rfl rfl Tryz.underlying39 ti3 rfl rfl rfl rfl (by decide) (blk_cells (hS.at _)) rfl rfl (by omega) (by omega) ?_; clear hS; intro v23 w hS
      refine nil ?_
      refine ⟨fun _ => (hS.at b7), ?_⟩
      show wpA _ _ _ _ _ _ _ _ _ _
      refine f_step 12 (by kernel_rfl) rfl (fun c a a' w h => by obtain ⟨_, v, hv, _⟩ := h; cases hv) (hS.at b7) (fun w hS => (fa41_1 h4)) ?_
      show wpA _ _ _ _ _ _ _ _ _ _
      refine a_step (i := 11) (is := []) (by kernel_rfl) ⟨?_, trivial⟩
      refine ⟨_, rfl, ?_⟩
      refine sapp (bytes := 8) (size := 1) (v := hv) (m := 1) hS rfl rfl Tryz.underlying39 ti3 rfl rfl rfl rfl (by decide) (blk_cells (hS.at _)) rfl rfl (by omega) (by omega) ?_; clear hS; intro v29 w hS
      refine nil ?_
      refine ⟨fun _ => (hS.at b7), ?_⟩
      show wpA _ _ _ _ _ _ _ _ _ _
      show wpA _ _ _ _ _ _ _ _ _ _
      refine a_step (i := 13) (is := []) (by kernel_rfl) ⟨?_, trivial⟩
      refine ⟨_, rfl, ?_⟩
      obtain ⟨a23, c23, rfl⟩ := row_shape (hS.row v23)
      refine sst hS rfl rfl Tryz.sizeOf39 rfl rfl rfl rfl ?_; clear hS; intro w hS
      refine nil ?_
      refine ⟨fun _ => (hS.at b7), ?_⟩
      show wpA _ _ _ _ _ _ _ _ _ _
      refine f_step 14 (by kernel_rfl) rfl (fun c a a' w h => by obtain ⟨_, v, hv, _⟩ := h; cases hv) (hS.at b7) (fun w hS => (fa41_1 h5)) ?_
      show wpA _ _ _ _ _ _ _ _ _ _
      refine a_step (i := 15) (is := []) (by kernel_rfl) ⟨?_, trivial⟩
      refine ⟨_, rfl, ?_⟩
      obtain ⟨a29, c29, rfl⟩ := row_shape (hS.row v29)
      refine sst hS rfl rfl Tryz.sizeOf39 rfl rfl rfl rfl ?_; clear hS; intro w hS
      refine nil ?_
      refine ⟨fun _ => (hS.at b7), ?_⟩
      show wpA _ _ _ _ _ _ _ _ _ _
      refine a_end (by kernel_rfl) ?_
      show Code.wp _ _ _ _ _
      refine region ?_
      refine sv (yAdd h14 rfl ⟨by omega, by omega⟩) ?_
      refine sv (yMove rfl) ?_
      refine nil ?_
      exact ⟨_, _, rfl, ⟨k + 1, _, _, h0, h4, h5, h12, h13, rfl, (by rw [take_snoc (show (losS l)[k]? = some (spn l k).lo by simp [losS, spn_get hkl]), take_snoc (show (hisS l)[k]? = some (spn l k).hi by simp [hisS, spn_get hkl]), List.flatMap_append, List.flatMap_append]; first | exact hS.sub (.cons _ (.cons _ (.cons _ (List.Sublist.refl _)))) | exact (hS.sub (.cons _ (.cons _ (.cons _ (List.Sublist.refl _))))).perm (List.Perm.swap _ _ _)), (by omega), rfl⟩, by omega⟩
    ·
     refine ⟨_, rfl, ?_⟩
     refine sv (yLdB rfl Tryz.isAgg39 (hS.at _) rfl) ?_
     refine nil ?_
     refine ⟨fun _ => (hS.at b7), ?_⟩
     show wpA _ _ _ _ _ _ _ _ _ _
     show wpA _ _ _ _ _ _ _ _ _ _
     refine a_step (i := 1) (is := []) (by kernel_rfl) ⟨?_, trivial⟩
     refine ⟨_, rfl, ?_⟩
     refine sv (yLdB rfl Tryz.isAgg39 (hS.at _) rfl) ?_
     refine nil ?_
     refine ⟨fun _ => (hS.at b7), ?_⟩
     show wpA _ _ _ _ _ _ _ _ _ _
     show wpA _ _ _ _ _ _ _ _ _ _
     refine a_step (i := 5) (is := []) (by kernel_rfl) ⟨?_, trivial⟩
     refine ⟨_, rfl, ?_⟩
     refine sapp (bytes := 8) (size := 1) (v := lv) (m := 1) hS rfl rfl Tryz.underlying39 ti3 rfl rfl rfl rfl (by decide) (blk_cells (hS.at _)) rfl rfl (by omega) (by omega) ?_; clear hS; intro v23 w hS
     refine nil ?_
     refine ⟨fun _ => (hS.at b7), ?_⟩
     show wpA _ _ _ _ _ _ _ _ _ _
     refine f_step 12 (by kernel_rfl) rfl (fun c a a' w h => by obtain ⟨_, v, hv, _⟩ := h; cases hv) (hS.at b7) (fun w hS => (fa41_1 h4)) ?_
     show wpA _ _ _ _ _ _ _ _ _ _
     refine a_step (i := 11) (is := []) (by kernel_rfl) ⟨?_, trivial⟩
     refine ⟨_, rfl, ?_⟩
     refine sapp (bytes := 8) (size := 1) (v := hv) (m := 1) hS rfl rfl Tryz.underlying39 ti3 rfl rfl rfl rfl (by decide) (blk_cells (hS.at _)) rfl rfl (by omega) (by omega) ?_; clear hS; intro v29 w hS
     refine nil ?_
     refine ⟨fun _ => (hS.at b7), ?_⟩
     show wpA _ _ _ _ _ _ _ _ _ _
     show wpA _ _ _ _ _ _ _ _ _ _
     refine a_step (i := 13) (is := []) (by kernel_rfl) ⟨?_, trivial⟩
     refine ⟨_, rfl, ?_⟩
     obtain ⟨a23, c23, rfl⟩ := row_shape (hS.row v23)
     refine sst hS rfl rfl Tryz.sizeOf39 rfl rfl rfl rfl ?_; clear hS; intro w hS
     refine nil ?_
     refine ⟨fun _ => (hS.at b7), ?_⟩
     show wpA _ _ _ _ _ _ _ _ _ _
     refine f_step 14 (by kernel_rfl) rfl (fun c a a' w h => by obtain ⟨_, v, hv, _⟩ := h; cases hv) (hS.at b7) (fun w hS => (fa41_1 h5)) ?_
     show wpA _ _ _ _ _ _ _ _ _ _
     refine a_step (i := 15) (is := []) (by kernel_rfl) ⟨?_, trivial⟩
     refine ⟨_, rfl, ?_⟩
     obtain ⟨a29, c29, rfl⟩ := row_shape (hS.row v29)
     refine sst hS rfl rfl Tryz.sizeOf39 rfl rfl rfl rfl ?_; clear hS; intro w hS
     refine nil ?_
     refine ⟨fun _ => (hS.at b7), ?_⟩
     show wpA _ _ _ _ _ _ _ _ _ _
     refine a_end (by kernel_rfl) ?_
     show Code.wp _ _ _ _ _
     refine region ?_
     refine sv (yAdd h14 rfl ⟨by omega, by omega⟩) ?_
     refine sv (yMove rfl) ?_
     refine nil ?_
     exact ⟨_, _, rfl, ⟨k + 1, _, _, h0, h4, h5, h12, h13, rfl, (by rw [take_snoc (show (losS l)[k]? = some (spn l k).lo by simp [losS, spn_get hkl]), take_snoc (show (hisS l)[k]? = some (spn l k).hi by simp [hisS, spn_get hkl]), List.flatMap_append, List.flatMap_append]; first | exact hS.sub (.cons _ (.cons _ (.cons _ (List.Sublist.refl _)))) | exact (hS.sub (.cons _ (.cons _ (.cons _ (List.Sublist.refl _))))).perm (List.Perm.swap _ _ _)), (by omega), rfl⟩, by omega⟩
   ·
    refine ⟨_, rfl, ?_⟩
    refine sv (yLdB rfl Tryz.isAgg39 (hS.at _) rfl) ?_
    refine nil ?_
    refine ⟨fun _ => (hS.at b7), ?_⟩
    show wpA _ _ _ _ _ _ _ _ _ _
    show wpA _ _ _ _ _ _ _ _ _ _
    refine a_step (i := 1) (is := [4]) (by kernel_rfl) ⟨?_, ?_, trivial⟩
    ·
     refine ⟨_, rfl, ?_⟩
     refine sv (yLdB rfl Tryz.isAgg39 (hS.at _) rfl) ?_
     refine nil ?_
     refine ⟨fun _ => (hS.at b7), ?_⟩
     show wpA _ _ _ _ _ _ _ _ _ _
     show wpA _ _ _ _ _ _ _ _ _ _
     refine a_step (i := 4) (is := []) (by kernel_rfl) ⟨?_, trivial⟩
     refine ⟨_, rfl, ?_⟩
     refine sbslice hS Tryz.underlying39 Tryz.sizeOf3 rfl Tryz.zeroValue3 rfl (.cons rfl rfl .nil) rfl ?_; clear hS; intro b22 w hS
     refine nil ?_
     refine ⟨fun _ => (hS.at b7), ?_⟩
     show wpA _ _ _ _ _ _ _ _ _ _
     show wpA _ _ _ _ _ _ _ _ _ _
     refine a_step (i := 5) (is := []) (by kernel_rfl) ⟨?_, trivial⟩
     refine ⟨_, rfl, ?_⟩
     refine sapp (bytes := 8) (size := 1) (v := lv) (m := 1) hS rfl rfl Tryz.underlying39 ti3 rfl rfl rfl rfl (by decide) (blk_cells (hS.at _)) rfl rfl (by omega) (by omega) ?_; clear hS; intro v23 w hS
     refine nil ?_
     refine ⟨fun _ => (hS.at b7), ?_⟩
     show wpA _ _ _ _ _ _ _ _ _ _
     refine f_step 12 (by kernel_rfl) rfl (fun c a a' w h => by obtain ⟨_, v, hv, _⟩ := h; cases hv) (hS.at b7) (fun w hS => (fa41_1 h4)) ?_
     show wpA _ _ _ _ _ _ _ _ _ _
     refine a_step (i := 11) (is := []) (by kernel_rfl) ⟨?_, trivial⟩
     refine ⟨_, rfl, ?_⟩
     refine sapp (bytes := 8) (size := 1) (v := hv) (m := 1) hS rfl rfl Tryz.underlying39 ti3 rfl rfl rfl rfl (by decide) (blk_cells (hS.at _)) rfl rfl (by omega) (by omega) ?_; clear hS; intro v29 w hS
     refine nil ?_
     refine ⟨fun _ => (hS.at b7), ?_⟩
     show wpA _ _ _ _ _ _ _ _ _ _
     show wpA _ _ _ _ _ _ _ _ _ _
     refine a_step (i := 13) (is := []) (by kernel_rfl) ⟨?_, trivial⟩
     refine ⟨_, rfl, ?_⟩
     obtain ⟨a23, c23, rfl⟩ := row_shape (hS.row v23)
     refine sst hS rfl rfl Tryz.sizeOf39 rfl rfl rfl rfl ?_; clear hS; intro w hS
     refine nil ?_
     refine ⟨fun _ => (hS.at b7), ?_⟩
     show wpA _ _ _ _ _ _ _ _ _ _
     refine f_step 14 (by kernel_rfl) rfl (fun c a a' w h => by obtain ⟨_, v, hv, _⟩ := h; cases hv) (hS.at b7) (fun w hS => (fa41_1 h5)) ?_
     show wpA _ _ _ _ _ _ _ _ _ _
     refine a_step (i := 15) (is := []) (by kernel_rfl) ⟨?_, trivial⟩
     refine ⟨_, rfl, ?_⟩
     obtain ⟨a29, c29, rfl⟩ := row_shape (hS.row v29)
     refine sst hS rfl rfl Tryz.sizeOf39 rfl rfl rfl rfl ?_; clear hS; intro w hS
     refine nil ?_
     refine ⟨fun _ => (hS.at b7), ?_⟩
     show wpA _ _ _ _ _ _ _ _ _ _
     refine a_end (by kernel_rfl) ?_
     show Code.wp _ _ _ _ _
     refine region ?_
     refine sv (yAdd h14 rfl ⟨by omega, by omega⟩) ?_
     refine sv (yMove rfl) ?_
     refine nil ?_
     exact ⟨_, _, rfl, ⟨k + 1, _, _, h0, h4, h5, h12, h13, rfl, (by rw [take_snoc (show (losS l)[k]? = some (spn l k).lo by simp [losS, spn_get hkl]), take_snoc (show (hisS l)[k]? = some (spn l k).hi by simp [hisS, spn_get hkl]), List.flatMap_append, List.flatMap_append]; first | exact hS.sub (.cons _ (.cons _ (.cons _ (List.Sublist.refl _)))) | exact (hS.sub (.cons _ (.cons _ (.cons _ (List.Sublist.refl _))))).perm (List.Perm.swap _ _ _)), (by omega), rfl⟩, by omega⟩
    ·
     refine ⟨_, rfl, ?_⟩
     refine sbslice hS Tryz.underlying39 Tryz.sizeOf3 rfl Tryz.zeroValue3 rfl (.cons rfl rfl .nil) rfl ?_; clear hS; intro b22 w hS
     refine nil ?_
     refine ⟨fun _ => (hS.at b7), ?_⟩
     show wpA _ _ _ _ _ _ _ _ _ _
     show wpA _ _ _ _ _ _ _ _ _ _
     refine a_step (i := 1) (is := []) (by kernel_rfl) ⟨?_, trivial⟩
     refine ⟨_, rfl, ?_⟩
     refine sv (yLdB rfl Tryz.isAgg39 (hS.at _) rfl) ?_
     refine nil ?_
     refine ⟨fun _ => (hS.at b7), ?_⟩
     show wpA _ _ _ _ _ _ _ _ _ _
     show wpA _ _ _ _ _ _ _ _ _ _
     refine a_step (i := 5) (is := []) (by kernel_rfl) ⟨?_, trivial⟩
     refine ⟨_, rfl, ?_⟩
     refine sapp (bytes := 8) (size := 1) (v := lv) (m := 1) hS rfl rfl Tryz.underlying39 ti3 rfl rfl rfl rfl (by decide) (blk_cells (hS.at _)) rfl rfl (by omega) (by omega) ?_; clear hS; intro v23 w hS
     refine nil ?_
     refine ⟨fun _ => (hS.at b7), ?_⟩
     show wpA _ _ _ _ _ _ _ _ _ _
     refine f_step 12 (by kernel_rfl) rfl (fun c a a' w h => by obtain ⟨_, v, hv, _⟩ := h; cases hv) (hS.at b7) (fun w hS => (fa41_1 h4)) ?_
     show wpA _ _ _ _ _ _ _ _ _ _
     refine a_step (i := 11) (is := []) (by kernel_rfl) ⟨?_, trivial⟩
     refine ⟨_, rfl, ?_⟩
     refine sapp (bytes := 8) (size := 1) (v := hv) (m := 1) hS rfl rfl Tryz.underlying39 ti3 rfl rfl rfl rfl (by decide) (blk_cells (hS.at _)) rfl rfl (by omega) (by omega) ?_; clear hS; intro v29 w hS
     refine nil ?_
     refine ⟨fun _ => (hS.at b7), ?_⟩
     show wpA _ _ _ _ _ _ _ _ _ _
     show wpA _ _ _ _ _ _ _ _ _ _
     refine a_step (i := 13) (is := []) (by kernel_rfl) ⟨?_, trivial⟩
     refine ⟨_, rfl, ?_⟩
     obtain ⟨a23, c23, rfl⟩ := row_shape (hS.row v23)
     refine sst hS rfl rfl Tryz.sizeOf39 rfl rfl rfl rfl ?_; clear hS; intro w hS
     refine nil ?_
     refine ⟨fun _ => (hS.at b7), ?_⟩
     show wpA _ _ _ _ _ _ _ _ _ _
     refine f_step 14 (by kernel_rfl) rfl (fun c a a' w h => by obtain ⟨_, v, hv, _⟩ := h; cases hv) (hS.at b7) (fun w hS => (fa41_1 h5)) ?_
     show wpA _ _ _ _ _ _ _ _ _ _
     refine a_step (i := 15) (is := []) (by kernel_rfl) ⟨?_, trivial⟩
     refine ⟨_, rfl, ?_⟩
     obtain ⟨a29, c29, rfl⟩ := row_shape (hS.row v29)
     refine sst hS rfl rfl Tryz.sizeOf39 rfl rfl rfl rfl ?_; clear hS; intro w hS
     refine nil ?_
     refine ⟨fun _ => (hS.at b7), ?_⟩
     show wpA _ _ _ _ _ _ _ _ _ _
     refine a_end (by kernel_rfl) ?_
     show Code.wp _ _ _ _ _
     refine region ?_
     refine sv (yAdd h14 rfl ⟨by omega, by omega⟩) ?_
     refine sv (yMove rfl) ?_
     refine nil ?_
     exact ⟨_, _, rfl, ⟨k + 1, _, _, h0, h4, h5, h12, h13, rfl, (by rw [take_snoc (show (losS l)[k]? = some (spn l k).lo by simp [losS, spn_get hkl]), take_snoc (show (hisS l)[k]? = some (spn l k).hi by simp [hisS, spn_get hkl]), List.flatMap_append, List.flatMap_append]; first | exact hS.sub (.cons _ (.cons _ (.cons _ (List.Sublist.refl _)))) | exact (hS.sub (.cons _ (.cons _ (.cons _ (List.Sublist.refl _))))).perm (List.Perm.swap _ _ _)), (by omega), rfl⟩, by omega⟩
 ·
  simp only [BS, ne_eq] at c15
  obtain rfl : k = l.length := by omega
  rw [show (losS l).take l.length = losS l from List.take_of_length_le (by simp [losS]), show (hisS l).take l.length = hisS l from List.take_of_length_le (by simp [hisS])] at hS
  refine exit ?_
  show Code.wp _ _ _ _ _
  refine seq ?_
  refine region_mix (fun w => w.heap[b4]? = some (.cells ([.int .i64 fr, lv] : List Value).toArray 41 (0, 0)) ∧ w.heap[b5]? = some (.cells ([.int .i64 fr, hv] : List Value).toArray 41 (0, 0))) 4 mixed hS ?_
  clear hS; intro w hS
  obtain ⟨alv, clv, rfl⟩ := row_shape (hS.row lv)
  obtain ⟨ahv, chv, rfl⟩ := row_shape (hS.row hv)
  refine f_step 0 (by kernel_rfl) rfl (fun c a a' w h => by obtain ⟨_, v, hv, _⟩ := h; cases hv) ⟨hS.at b4, hS.at b5⟩ (fun w hS => (yLdBA h4 Tryz.isAgg41 Tryz.sizeOf41 hS.1 rfl rfl)) ?_
  refine f_step 1 (by kernel_rfl) rfl (fun c a a' w h => by obtain ⟨_, v, hv, _⟩ := h; cases hv) ⟨hS.at b4, hS.at b5⟩ (fun w hS => (yLdBA h5 Tryz.isAgg41 Tryz.sizeOf41 hS.2 rfl rfl)) ?_
  show wpA _ _ _ _ _ _ _ _ _ _
  refine a_step (i := 2) (is := []) (by kernel_rfl) ⟨?_, trivial⟩
  refine ⟨_, rfl, ?_⟩
  refine sst hS h4 rfl Tryz.sizeOf41 rfl rfl rfl rfl ?_; clear hS; intro w hS
  refine nil ?_
  refine ⟨fun _ => ⟨hS.at b4, hS.at b5⟩, ?_⟩
  show wpA _ _ _ _ _ _ _ _ _ _
  show wpA _ _ _ _ _ _ _ _ _ _
  refine a_step (i := 3) (is := []) (by kernel_rfl) ⟨?_, trivial⟩
  refine ⟨_, rfl, ?_⟩
  refine sst hS h5 rfl Tryz.sizeOf41 rfl rfl rfl rfl ?_; clear hS; intro w hS
  refine nil ?_
  refine ⟨fun _ => ⟨hS.at b4, hS.at b5⟩, ?_⟩
  show wpA _ _ _ _ _ _ _ _ _ _
  refine a_end (by kernel_rfl) ?_
  show Code.wp _ _ _ _ _
  refine wp_ret ?_
  refine retQ (resV2 rfl (rc h4 Tryz.isAgg41 Tryz.sizeOf41 (hS.at _) rfl rfl) (rc h5 Tryz.isAgg41 Tryz.sizeOf41 (hS.at _) rfl rfl)) ?_
  exact ⟨_, _, rfl, hS.sub (.cons_cons _ (.cons_cons _ (List.nil_sublist _)))⟩
/-- (*barrage/surge.known).choices -/
theorem c_choices {bk nn : Nat} {c : List Int} {many : Int} {asv : Option Addr} {csv : Nat} {w0 : World} : CE Tryz.prog 118 #[.pointer (some ⟨bk, 0, none⟩), .agg (chC c).toArray, .int .i64 (c.length : Int), .int .i64 many, .slice asv nn csv] w0 (fun u w' => ∃ i5 i6 i7 i8 i9, u = .func (.func 168) #[] [.pointer (some ⟨i7, 0, none⟩), .pointer (some ⟨i5, 0, none⟩), .pointer (some ⟨i8, 0, none⟩), .pointer (some ⟨i6, 0, none⟩), .pointer (some ⟨i9, 0, none⟩)].toArray ∧ St w0 w' [blk i9 [.slice asv nn csv] 121, blk i8 [.int .i64 many] 3, blk i7 [.int .i64 (c.length : Int)] 3, blk i6 (chC c) 113, blk i5 [.pointer (some ⟨bk, 0, none⟩)] 107]) := by
 refine enter Tryz.func118 rfl Tryz.ntmps118 rfl ?_
 have hS := St.start w0
 refine seq ?_
 refine region ?_
 refine sbox hS rfl rfl ?_; clear hS; intro b5 w hS
 refine sbox hS rfl rfl ?_; clear hS; intro b6 w hS
 refine sbox hS rfl rfl ?_; clear hS; intro b7 w hS
 refine sbox hS rfl rfl ?_; clear hS; intro b8 w hS
 refine sbox hS rfl rfl ?_; clear hS; intro b9 w hS
 refine sv (yAsg rfl) ?_
 refine nil ?_
 show Code.wp _ _ _ _ _
 refine seq ?_
 refine region ?_
 refine sv (yFn (.cons rfl (.cons rfl (.cons rfl (.cons rfl (.cons rfl .nil)))))) ?_
 refine sv (yAsg rfl) ?_
 refine nil ?_
 show Code.wp _ _ _ _ _
 refine wp_ret ?_
 refine retQ (res1 rfl rfl) ?_
 exact ⟨b5, b6, b7, b8, b9, rfl, hS⟩
end Go.Proofs.YtgidbailiababaaGreatDoor

/- part S13 -/
namespace Bx
open Go Go.RowKit
section
variable {P : Program} {ops : Array Oper} {Q : Exit → Act → World → Prop} {rest : List Oper} {n d : Nat} {f : Fr} {ds : List Deferred} {w : World} {r : Option Nat} {ty : TypeId} {pos : String} {af : Array Edge}
theorem yieldR {fx : Operand} {xs : List Operand} {ts : Array TypeId} {l : Nat} {vs : List Value} {R : Value → World → Prop} (hf : ev n f fx = .func (.yield l) #[] #[]) (ha : Evs (ev n f) xs vs) (hy : YieldIn P l vs w R)
    (h : ∀ v w', R v w' → wpListIn (FX r) 0 P ops Q rest (mkd n (upd f d v) ds) w') : wpListIn (FX r) 0 P ops Q (⟨some d, .call ⟨.value fx, xs.toArray, ts⟩, ty, pos, af, none⟩ :: rest) (mkd n f ds) w := by
  unfold wpListIn
  rw [if_pos (by simp [Region.wanted])]
  obtain ⟨fn, tmps, assign, body, hr, hR⟩ := hy
  refine ⟨fun _ _ => trivial, ?_⟩
  rw [Oper.semAt_plain (FX r) _ _ (noDefer_spec rfl), wD_eval, mk_eval, execOp_xop, yield_run hf ha hr, Oper.uponIn_round]
  refine ⟨fun h => (by cases h), ?_⟩
  have hR2 : RoundIn (FX r) (0 - 1) P l fn tmps assign body w fun e w' => ∃ v, e = .returned v ∧ R v w' := hR
  refine RoundIn.mono hR2 ?_
  rintro e w' ⟨v, rfl, hv⟩
  show wpListIn (FX r) 0 P ops Q rest ((wD ds (mk n f)).put (some d) v) w'
  rw [wD_put, mk_put]
  exact h v w' hv
end
theorem chmark {w0 w : World} {D : Nat} {x : Item} {L : List Item} (h : StX [] w0 w (x :: obj D (.deferred (some [])) :: L)) : StX [] w0 w (packI (marks [D]) :: x :: L) := by
  have h1 : StX [] w0 w (obj D (.deferred (some [])) :: x :: L) := h.perm (List.Perm.swap _ _ _)
  have h2 : StX [] w0 w (obj D (.deferred (some [])) :: packI (marks []) :: x :: L) := h1.mark0.perm (List.Perm.swap _ _ _)
  exact h2.mark
theorem chmarks {w0 w : World} {D : Nat} {Ds : List Nat} {y : Item} {L : List Item} (h : StX [] w0 w (obj D (.deferred (some [])) :: y :: packI (marks Ds) :: L)) : StX [] w0 w (packI (marks (D :: Ds)) :: L) := by
  have h1 : StX [] w0 w (obj D (.deferred (some [])) :: packI (marks Ds) :: L) := h.sub (.cons_cons _ (.cons _ (List.Sublist.refl _)))
  exact h1.mark
section
variable {t : Sgt} {cs : List Int}
theorem ch_trace {n k : Nat} {c : List Int} {many : Int} {s : List Span} {f : Fct} {A B X : List ChX} {x : ChX} (hm : ¬ (cs.getD c.length (-1) < 0 ∨ many = 0)) (hf : f = fct t.fcs (cs.getD c.length (-1)).toNat) (hk : k < f.members.length)
    (hA : A.map (·.1) = chS t cs n (c ++ [-1]) many s) (hB : B.map (·.1) = chM t cs n c many s f k) (hX : (X ++ [x]).map (·.1) <+: chS t cs n (c ++ [(k : Int)]) (many - 1) (meetS s (tubeS t f (mem f k)))) :
    ((A ++ (B ++ X)) ++ [x]).map (·.1) <+: chS t cs (n + 1) c many s := by
  rw [List.append_assoc, List.append_assoc, List.map_append, List.map_append, hA, hB, ch_more hm, ← hf]
  refine (List.prefix_append_right_inj _).2 ?_
  refine List.IsPrefix.trans ?_ (chM_pre (k := f.members.length) (show k + 1 ≤ f.members.length by omega))
  rw [chM_succ]
  exact (List.prefix_append_right_inj _).2 hX
theorem ch_whole {n : Nat} {c : List Int} {many : Int} {s : List Span} {f : Fct} {A B : List ChX} (hm : ¬ (cs.getD c.length (-1) < 0 ∨ many = 0)) (hf : f = fct t.fcs (cs.getD c.length (-1)).toNat)
    (hA : A.map (·.1) = chS t cs n (c ++ [-1]) many s) (hB : B.map (·.1) = chM t cs n c many s f f.members.length) : (A ++ B).map (·.1) = chS t cs (n + 1) c many s := by
  rw [List.map_append, hA, hB, ch_more hm, ← hf]
end
end Bx

/- part Sw10 -/
namespace Go.Proofs.YtgidbailiababaaGreatDoor
open Go Bx
/-- The contract of choices of n more centres. -/
def ItCh (w0 : World) (t : Sgt) (now : Int) (cv ov : Value) (ag ak ae aw ax : Option Addr) (cg ck ce cw cx bk : Nat) (T : TypeId) (n : Nat) : Prop := ∀ (c : List Int) (many : Int) (sp : List Span) (asv : Option Addr) (csv i5 i6 i7 i8 i9 : Nat), c.length + n = t.ctrs.length → 0 ≤ many → many ≤ 4 → sp.length = t.ticks.toNat → LBd 40000000 sp → ItQ Tryz.prog 168 [.pointer (some ⟨i7, 0, none⟩), .pointer (some ⟨i5, 0, none⟩), .pointer (some ⟨i8, 0, none⟩), .pointer (some ⟨i6, 0, none⟩), .pointer (some ⟨i9, 0, none⟩)] w0 [blk i9 [.slice asv t.ticks.toNat csv] 121, blk i8 [.int .i64 many] 3, blk i7 [.int .i64 ((c).length : Int)] 3, blk i6 (chC (c)) 113, blk i5 [.pointer (some ⟨bk, 0, none⟩)] 107] encCh (RdC bk T [.int .i64 t.table.mean, cv, .slice ag t.gauges.length cg, .int .i64 t.wrong, .int .i64 t.frm, .int .i64 t.ticks, .slice ak t.ctrs.length ck, .slice ae t.fcs.length ce, .int .i64 t.least, .int .i64 t.most, .int .i64 t.rate, .int .i64 t.quorum, .int .i64 now, .slice aw t.ticks.toNat cw, .slice ax t.ctrs.length cx, ov] t now aw ax asv cw cx csv (sp)) (ChT (RdC bk T [.int .i64 t.table.mean, cv, .slice ag t.gauges.length cg, .int .i64 t.wrong, .int .i64 t.frm, .int .i64 t.ticks, .slice ak t.ctrs.length ck, .slice ae t.fcs.length ce, .int .i64 t.least, .int .i64 t.most, .int .i64 t.rate, .int .i64 t.quorum, .int .i64 now, .slice aw t.ticks.toNat cw, .slice ax t.ctrs.length cx, ov] t now aw ax asv cw cx csv (sp)) t.ticks.toNat (chS t (curS t now) n (c) (many) (sp))) (ChZ (chS t (curS t now) n (c) (many) (sp)))
set_option maxHeartbeats 8000000 in
/-- (*barrage/surge.known).choices closure 1 -/
theorem it_chstep {n : Nat} {t : Sgt} {now : Int} {cv ov : Value} {ag ak ae aw ax : Option Addr} {cg ck ce cw cx bk : Nat} {T : TypeId} {c : List Int} {many : Int} {sp : List Span} {asv : Option Addr} {csv i5 i6 i7 i8 i9 : Nat} {w0 : World} (h : RSgt w0 [.int .i64 t.table.mean, cv, .slice ag t.gauges.length cg, .int .i64 t.wrong, .int .i64 t.frm, .int .i64 t.ticks, .slice ak t.ctrs.length ck, .slice ae t.fcs.length ce, .int .i64 t.least, .int .i64 t.most, .int .i64 t.rate, .int .i64 t.quorum] t) (hok : SgOk t) (hnow : Bd now 0 200000) (hg : Glb w0) (IH : ∀ m, n = m + 1 → ItCh w0 t now cv ov ag ak ae aw ax cg ck ce cw cx bk T m) (hcn : c.length + n = t.ctrs.length) (hm0 : 0 ≤ many) (hm4 : many ≤ 4) (hsl : sp.length = t.ticks.toNat) (hsb : LBd 40000000 sp) : ItQ Tryz.prog 168 [.pointer (some ⟨i7, 0, none⟩), .pointer (some ⟨i5, 0, none⟩), .pointer (some ⟨i8, 0, none⟩), .pointer (some ⟨i6, 0, none⟩), .pointer (some ⟨i9, 0, none⟩)] w0 [blk i9 [.slice asv t.ticks.toNat csv] 121, blk i8 [.int .i64 many] 3, blk i7 [.int .i64 ((c).length : Int)] 3, blk i6 (chC (c)) 113, blk i5 [.pointer (some ⟨bk, 0, none⟩)] 107] encCh (RdC bk T [.int .i64 t.table.mean, cv, .slice ag t.gauges.length cg, .int .i64 t.wrong, .int .i64 t.frm, .int .i64 t.ticks, .slice ak t.ctrs.length ck, .slice ae t.fcs.length ce, .int .i64 t.least, .int .i64 t.most, .int .i64 t.rate, .int .i64 t.quorum, .int .i64 now, .slice aw t.ticks.toNat cw, .slice ax t.ctrs.length cx, ov] t now aw ax asv cw cx csv (sp)) (ChT (RdC bk T [.int .i64 t.table.mean, cv, .slice ag t.gauges.length cg, .int .i64 t.wrong, .int .i64 t.frm, .int .i64 t.ticks, .slice ak t.ctrs.length ck, .slice ae t.fcs.length ce, .int .i64 t.least, .int .i64 t.most, .int .i64 t.rate, .int .i64 t.quorum, .int .i64 now, .slice aw t.ticks.toNat cw, .slice ax t.ctrs.length cx, ov] t now aw ax asv cw cx csv (sp)) t.ticks.toNat (chS t (curS t now) n (c) (many) (sp))) (ChZ (chS t (curS t now) n (c) (many) (sp))) := by
 obtain ⟨hT, hG, hw64, hf64, hk64, hC, hF, hl64, hm64, hr64, hq64⟩ := RSgt.parts h
 have htk := hok.tk
 have hnc := hok.nc
 have hc4 : c.length ≤ 4 := by omega
 intro yl Cb w L hRd hY h0 hS
 replace hS : StX [] w0 w (blk i9 [.slice asv t.ticks.toNat csv] 121 :: blk i8 [.int .i64 many] 3 :: blk i7 [.int .i64 (c.length : Int)] 3 :: blk i6 (chC c) 113 :: blk i5 [.pointer (some ⟨bk, 0, none⟩)] 107 :: L) := hS
 refine enterX Tryz.func168 rfl Tryz.ntmps168 rfl ?_
 skip
 refine seqX ?_
 refine regionX rfl ?_
 refine sbox hS rfl rfl ?_; clear hS; intro b6 w hS
 refine nil ?_
 show Code.wpIn _ _ _ _ _ _ _
 refine seqX ?_
 refine seqX ?_
 refine region_drawX mixed (by kernel_rfl) rfl hS ?_
 have hcb := h0
 have rd : ∀ w, StX [] w0 w (blk b6 [.func (.yield yl) #[] #[]] 212 :: blk i9 [.slice asv t.ticks.toNat csv] 121 :: blk i8 [.int .i64 many] 3 :: blk i7 [.int .i64 (c.length : Int)] 3 :: blk i6 (chC (c)) 113 :: blk i5 [.pointer (some ⟨bk, 0, none⟩)] 107 :: L) → RdC bk T [.int .i64 t.table.mean, cv, .slice ag t.gauges.length cg, .int .i64 t.wrong, .int .i64 t.frm, .int .i64 t.ticks, .slice ak t.ctrs.length ck, .slice ae t.fcs.length ce, .int .i64 t.least, .int .i64 t.most, .int .i64 t.rate, .int .i64 t.quorum, .int .i64 now, .slice aw t.ticks.toNat cw, .slice ax t.ctrs.length cx, ov] t now aw ax asv cw cx csv (sp) w := fun w hS => hRd _ w L [blk b6 [.func (.yield yl) #[] #[]] 212, blk i9 [.slice asv t.ticks.toNat csv] 121, blk i8 [.int .i64 many] 3, blk i7 [.int .i64 (c.length : Int)] 3, blk i6 (chC (c)) 113, blk i5 [.pointer (some ⟨bk, 0, none⟩)] 107] hcb hS
 refine qv (fun w hS => (yLdB rfl Tryz.isAgg3 (hS.at _) rfl)) ?_
 refine qv (fun w hS => (yLdB rfl Tryz.isAgg107 (hS.at _) rfl)) ?_
 refine qv (fun w hS => (yNil rfl)) ?_
 refine qv (fun w hS => (fa123_3 rfl)) ?_
 refine qv (fun w hS => (yLdB rfl Tryz.isAgg39 (rd w hS).1 rfl)) ?_
 refine qv (fun w hS => (yLen rfl Tryz.underlying39)) ?_
 refine qv (fun w hS => (yEql rfl rfl)) ?_
 clear hS; refine qnil (fun w hS => ?_)
 show Code.wpIn _ _ _ _ _ _ _
 refine condX rfl (fun c20 => ?_) (fun c20 => ?_)
 ·
  simp only [BS, ne_eq] at c20
  obtain rfl : n = 0 := by omega
  refine seqX ?_
  refine seqX ?_
  refine regionX rfl ?_
  refine sv (yLdB rfl Tryz.isAgg3 (hS.at _) rfl) ?_
  refine sv (yEql rfl rfl) ?_
  refine nil ?_
  show Code.wpIn _ _ _ _ _ _ _
  refine condX rfl (fun c22 => ?_) (fun c22 => ?_)
  ·
   simp only [BS, ne_eq] at c22
   have hcz : many = 0 := by omega
   refine regionL ?_
   refine preX 3 rfl ?_
   refine sv (yLdB rfl Tryz.isAgg212 (hS.at _) rfl) ?_
   refine sv (yLdBA rfl Tryz.isAgg113 Tryz.sizeOf113 (hS.at _) rfl rfl) ?_
   refine sv (yLdB rfl Tryz.isAgg121 (hS.at _) rfl) ?_
   refine nil ?_
   show wpListIn _ _ _ _ _ _ _ _
   refine yieldU rfl (.cons rfl (.cons rfl .nil)) (hY [] ((c, sp), .slice asv t.ticks.toNat csv) w L [blk b6 [.func (.yield yl) #[] #[]] 212, blk i9 [.slice asv t.ticks.toNat csv] 121, blk i8 [.int .i64 many] 3, blk i7 [.int .i64 (c.length : Int)] 3, blk i6 (chC (c)) 113, blk i5 [.pointer (some ⟨bk, 0, none⟩)] 107] (ChT.mk (by simp [ch_zero, hcz]) ⟨_, _, rfl⟩ (fun w hw hr => hr.2.2.2)) h0 hS) ?_
   clear hS hcb rd; rintro _ w ⟨bq, L, rfl, hcb, hS⟩
   refine endX rfl ?_
   refine nil ?_
   show Code.wpIn _ _ _ _ _ _ _
   refine wpIn_ret (thenR ?_)
   refine leafX (results_none rfl _ _ _) ?_
   refine ⟨L, hS.sub (.cons _ (.cons _ (.cons _ (.cons _ (.cons _ (.cons _ (List.Sublist.refl _))))))), ?_⟩
   cases bq with
   | true => exact .inl ⟨_, by simp [ChZ, ch_zero, hcz], hcb⟩
   | false => exact .inr ⟨_, hcb⟩
  ·
   simp only [BS, ne_eq] at c22
   have hcz : ¬ many = 0 := by omega
   refine skipX ?_
   show Code.wpIn _ _ _ _ _ _ _
   refine wpIn_ret (thenR ?_)
   refine leafX (results_none rfl _ _ _) ?_
   exact ⟨L, hS.sub (.cons _ (.cons _ (.cons _ (.cons _ (.cons _ (.cons _ (List.Sublist.refl _))))))), .inl ⟨[], by simp [ChZ, ch_zero, hcz], h0⟩⟩
 ·
  simp only [BS, ne_eq] at c20
  obtain ⟨m, rfl⟩ : ∃ m, n = m + 1 := ⟨n - 1, by omega⟩
  have hcl : c.length < t.ctrs.length := by omega
  refine skipX ?_
  show Code.wpIn _ _ _ _ _ _ _
  refine seqX ?_
  refine regionX rfl ?_
  refine sv (yLdB rfl Tryz.isAgg3 (hS.at _) rfl) ?_
  refine sv (Y.to (yIxA rfl rfl Tryz.runUnderlying113 Tryz.sizeOf3 (by omega) (by omega)) (congrArg (fun q => Value.pointer (some ⟨i6, q, none⟩)) (show 0 + ((c.length : Nat) : Int).toNat * 1 = c.length by omega))) ?_
  refine sst (vs := [.int .i64 (-1)]) hS rfl rfl Tryz.sizeOf3 rfl rfl (by rw [Nat.ble_eq]; show c.length + 1 ≤ 4; omega) rfl ?_; clear hS; intro w hS; rw [chC_set (-1) c (by omega)] at hS
  refine nil ?_
  show Code.wpIn _ _ _ _ _ _ _
  refine seqX ?_
  refine seqX ?_
  refine regionX rfl ?_
  refine sv (yLdB rfl Tryz.isAgg107 (hS.at _) rfl) ?_
  refine sv (yLdBA rfl Tryz.isAgg113 Tryz.sizeOf113 (hS.at _) rfl rfl) ?_
  refine sv (yLdB rfl Tryz.isAgg3 (hS.at _) rfl) ?_
  refine sv (Y.to (yAdd rfl rfl ⟨by omega, by omega⟩) (congrArg (Value.int .i64) (show (c.length : Int) + 1 = (((c ++ [-1]).length : Nat) : Int) by simp))) ?_
  refine sv (yLdB rfl Tryz.isAgg3 (hS.at _) rfl) ?_
  refine sv (yLdB rfl Tryz.isAgg121 (hS.at _) rfl) ?_
  refine scall Tryz.call118 (.cons rfl (.cons rfl (.cons rfl (.cons rfl (.cons rfl .nil))))) (c_choices (c := c ++ [-1]) (nn := t.ticks.toNat)) ?_
  rintro _ w ⟨j5, j6, j7, j8, j9, rfl, hM⟩; replace hS := hS.call hM; clear hM
  refine nil ?_
  show Code.wpIn _ _ _ _ _ _ _
  refine blockX ?_
  refine rangeQ (R := [blk j9 [.slice asv t.ticks.toNat csv] 121, blk j8 [.int .i64 many] 3, blk j7 [.int .i64 ((c ++ [-1]).length : Int)] 3, blk j6 (chC (c ++ [-1])) 113, blk j5 [.pointer (some ⟨bk, 0, none⟩)] 107]) (L0 := blk b6 [.func (.yield yl) #[] #[]] 212 :: blk i9 [.slice asv t.ticks.toNat csv] 121 :: blk i8 [.int .i64 many] 3 :: blk i7 [.int .i64 (c.length : Int)] 3 :: blk i6 (chC (c ++ [-1])) 113 :: blk i5 [.pointer (some ⟨bk, 0, none⟩)] 107 :: L) (ps := [36, 37]) rfl Tryz.call168 hS (IH m rfl (c ++ [-1]) many sp asv csv j5 j6 j7 j8 j9 (by simp; omega) (by omega) (by omega) hsl hsb) (fun cc pre L => (cc = none ∧ ∃ L2, L = blk b6 [.func (.yield yl) #[] #[]] 212 :: blk i9 [.slice asv t.ticks.toNat csv] 121 :: blk i8 [.int .i64 many] 3 :: blk i7 [.int .i64 (c.length : Int)] 3 :: blk i6 (chC (c ++ [-1])) 113 :: blk i5 [.pointer (some ⟨bk, 0, none⟩)] 107 :: L2 ∧ Cb true pre L2) ∨ (cc = some .ret ∧ ∃ L2, L = blk b6 [.func (.yield yl) #[] #[]] 212 :: blk i9 [.slice asv t.ticks.toNat csv] 121 :: blk i8 [.int .i64 many] 3 :: blk i7 [.int .i64 (c.length : Int)] 3 :: blk i6 (chC (c ++ [-1])) 113 :: blk i5 [.pointer (some ⟨bk, 0, none⟩)] 107 :: L2 ∧ Cb false pre L2)) (.inl ⟨rfl, L, rfl, h0⟩) (fun _ => rfl) (fun pre w L M hcb2 hS => by
   obtain ⟨-, L2, rfl, hcb3⟩ := hcb2.resolve_right (fun h => by cases h.1)
   exact hRd _ w L2 [blk b6 [.func (.yield yl) #[] #[]] 212, blk i9 [.slice asv t.ticks.toNat csv] 121, blk i8 [.int .i64 many] 3, blk i7 [.int .i64 (c.length : Int)] 3, blk i6 (chC (c ++ [-1])) 113, blk i5 [.pointer (some ⟨bk, 0, none⟩)] 107] hcb3 (hS.sub (List.sublist_append_left _ M))) ?_ ?_ ?_
  ·
   clear hS
   intro yl2 pre x w L M M0 hT hsub hcb2 hS
   obtain ⟨-, L2, rfl, hcb⟩ := hcb2.resolve_right (fun h => by cases h.1)
   obtain ⟨hTp, hTs, hTl⟩ := hT.last
   obtain ⟨⟨xc, xs2⟩, xv⟩ := x
   obtain ⟨axv, cxv, hxv⟩ := hTs
   obtain rfl : xv = _ := hxv
   replace hS : StX [] w0 w (blk b6 [.func (.yield yl) #[] #[]] 212 :: blk i9 [.slice asv t.ticks.toNat csv] 121 :: blk i8 [.int .i64 many] 3 :: blk i7 [.int .i64 (c.length : Int)] 3 :: blk i6 (chC (c ++ [-1])) 113 :: blk i5 [.pointer (some ⟨bk, 0, none⟩)] 107 :: (L2 ++ M)) := hS
   refine seqX ?_
   refine regionX rfl ?_
   refine salloc hS Tryz.zeroValue113 rfl ?_; clear hS; intro b7 w hS
   refine sst hS rfl rfl Tryz.sizeOf113 rfl rfl rfl rfl ?_; clear hS; intro w hS
   refine nil ?_
   show Code.wpIn _ _ _ _ _ _ _
   refine regionX rfl ?_
   refine sv (yAsg rfl) ?_
   refine nil ?_
   refine ⟨_, blk b7 (chC xc) 113 :: blk b6 [.func (.yield yl) #[] #[]] 212 :: blk i9 [.slice asv t.ticks.toNat csv] 121 :: blk i8 [.int .i64 many] 3 :: blk i7 [.int .i64 (c.length : Int)] 3 :: blk i6 (chC (c ++ [-1])) 113 :: blk i5 [.pointer (some ⟨bk, 0, none⟩)] 107 :: L2, rfl, hS, ?_⟩
   clear hS hsub; clear M; intro M w hsub hS; replace hS : StX [] w0 w (blk b7 (chC xc) 113 :: blk b6 [.func (.yield yl) #[] #[]] 212 :: blk i9 [.slice asv t.ticks.toNat csv] 121 :: blk i8 [.int .i64 many] 3 :: blk i7 [.int .i64 (c.length : Int)] 3 :: blk i6 (chC (c ++ [-1])) 113 :: blk i5 [.pointer (some ⟨bk, 0, none⟩)] 107 :: (L2 ++ M)) := hS
   refine blockX ?_
   refine seqX ?_
   refine regionL ?_
   refine preX 3 rfl ?_
   refine sv (yLdB rfl Tryz.isAgg212 (hS.at _) rfl) ?_
   refine sv (yLdBA rfl Tryz.isAgg113 Tryz.sizeOf113 (hS.at _) rfl rfl) ?_
   refine sv (yMove rfl) ?_
   refine nil ?_
   show wpListIn _ _ _ _ _ _ _ _
   replace hS := hS.perm (perm_mid [blk b7 (chC xc) 113, blk b6 [.func (.yield yl) #[] #[]] 212, blk i9 [.slice asv t.ticks.toNat csv] 121, blk i8 [.int .i64 many] 3, blk i7 [.int .i64 (c.length : Int)] 3, blk i6 (chC (c ++ [-1])) 113, blk i5 [.pointer (some ⟨bk, 0, none⟩)] 107] L2 M)
   refine yieldR rfl (.cons rfl (.cons rfl .nil)) (hY (pre) ((xc, xs2), .slice axv t.ticks.toNat cxv) _ L2 ([blk b7 (chC xc) 113, blk b6 [.func (.yield yl) #[] #[]] 212, blk i9 [.slice asv t.ticks.toNat csv] 121, blk i8 [.int .i64 many] 3, blk i7 [.int .i64 (c.length : Int)] 3, blk i6 (chC (c ++ [-1])) 113, blk i5 [.pointer (some ⟨bk, 0, none⟩)] 107] ++ M) (ChT.mk (by exact hTp.trans ch_first) ⟨_, _, rfl⟩ (fun w hw hr => hTl w (fun it hit => hw it (List.mem_append_right _ (hsub it hit))) hr)) hcb hS) ?_
   clear hS hcb; rintro _ w ⟨bq, L3, rfl, hcb, hS⟩
   replace hS : StX [] w0 w (blk b7 (chC xc) 113 :: blk b6 [.func (.yield yl) #[] #[]] 212 :: blk i9 [.slice asv t.ticks.toNat csv] 121 :: blk i8 [.int .i64 many] 3 :: blk i7 [.int .i64 (c.length : Int)] 3 :: blk i6 (chC (c ++ [-1])) 113 :: blk i5 [.pointer (some ⟨bk, 0, none⟩)] 107 :: (L3 ++ M)) := hS.perm (perm_mid [blk b7 (chC xc) 113, blk b6 [.func (.yield yl) #[] #[]] 212, blk i9 [.slice asv t.ticks.toNat csv] 121, blk i8 [.int .i64 many] 3, blk i7 [.int .i64 (c.length : Int)] 3, blk i6 (chC (c ++ [-1])) 113, blk i5 [.pointer (some ⟨bk, 0, none⟩)] 107] L3 M).symm
   refine endX rfl ?_
   refine sv (yNot rfl) ?_
   refine nil ?_
   show Code.wpIn _ _ _ _ _ _ _
   refine condX rfl (fun c42 => ?_) (fun c42 => ?_)
   ·
    obtain rfl : bq = false := by cases bq; rfl; cases c42
    refine wpIn_ret (blockR ?_)
    exact ⟨_, (.inr ⟨rfl, L3, rfl, hcb⟩), hS.sub (.cons _ (List.Sublist.refl _))⟩
   ·
    obtain rfl : bq = true := by cases bq; cases c42; rfl
    refine skipX ?_
    exact ⟨_, (.inl ⟨rfl, L3, rfl, hcb⟩), (hS.sub (.cons _ (List.Sublist.refl _)))⟩
  ·
   clear hS
   intro D w L xs hZ hcb hS
   have hcb0 := hcb.resolve_right (fun h => by cases h.1)
   clear hcb h0
   obtain ⟨-, L2, rfl, hcb⟩ := hcb0
   replace hS : StX [] w0 w (obj D (.deferred (some [])) :: blk b6 [.func (.yield yl) #[] #[]] 212 :: blk i9 [.slice asv t.ticks.toNat csv] 121 :: blk i8 [.int .i64 many] 3 :: blk i7 [.int .i64 (c.length : Int)] 3 :: blk i6 (chC (c ++ [-1])) 113 :: blk i5 [.pointer (some ⟨bk, 0, none⟩)] 107 :: L2) := hS
   show Code.wpIn _ _ _ _ _ _ _
   refine seqX ?_
   refine seqX ?_
   refine region_drawX mixed (by kernel_rfl) rfl hS ?_
   have rd : ∀ w, StX [] w0 w (obj D (.deferred (some [])) :: blk b6 [.func (.yield yl) #[] #[]] 212 :: blk i9 [.slice asv t.ticks.toNat csv] 121 :: blk i8 [.int .i64 many] 3 :: blk i7 [.int .i64 (c.length : Int)] 3 :: blk i6 (chC (c ++ [-1])) 113 :: blk i5 [.pointer (some ⟨bk, 0, none⟩)] 107 :: L2) → RdC bk T [.int .i64 t.table.mean, cv, .slice ag t.gauges.length cg, .int .i64 t.wrong, .int .i64 t.frm, .int .i64 t.ticks, .slice ak t.ctrs.length ck, .slice ae t.fcs.length ce, .int .i64 t.least, .int .i64 t.most, .int .i64 t.rate, .int .i64 t.quorum, .int .i64 now, .slice aw t.ticks.toNat cw, .slice ax t.ctrs.length cx, ov] t now aw ax asv cw cx csv (sp) w := fun w hS => hRd _ w L2 [obj D (.deferred (some [])), blk b6 [.func (.yield yl) #[] #[]] 212, blk i9 [.slice asv t.ticks.toNat csv] 121, blk i8 [.int .i64 many] 3, blk i7 [.int .i64 (c.length : Int)] 3, blk i6 (chC (c ++ [-1])) 113, blk i5 [.pointer (some ⟨bk, 0, none⟩)] 107] hcb hS
   have hcx := curS_get t now hcl
   obtain ⟨bq, oq, cq, haq, -, -, -, -⟩ := sl_at (rd w hS).2.2.1 hcx
   subst haq
   have hz1 := hZ
   refine qv (fun w hS => (yLdB rfl Tryz.isAgg107 (hS.at _) rfl)) ?_
   refine qv (fun w hS => (yNil rfl)) ?_
   refine qv (fun w hS => (fa123_3 rfl)) ?_
   refine qv (fun w hS => (yLdB rfl Tryz.isAgg39 (rd w hS).1 rfl)) ?_
   refine qv (fun w hS => (yLdB rfl Tryz.isAgg3 (hS.at _) rfl)) ?_
   refine qv (fun w hS => (yIxa rfl rfl rfl Tryz.runUnderlying39 Tryz.sizeOf3 (by omega) (by omega))) ?_
   refine qv (fun w hS => (yLd rfl Tryz.isAgg3 (sl_cell (rd w hS).2.2.1 hcx))) ?_
   refine qv (fun w hS => (yLss rfl rfl)) ?_
   refine qv (fun w hS => (yMove rfl)) ?_
   refine qg rfl rfl rfl (fun g w hS => (yLdB rfl Tryz.isAgg3 (hS.at _) rfl)) (fun v52 g52 => ?_)
   refine qg rfl rfl rfl (fun g w hS => (yEql (g52.1 g) rfl)) (fun v53 g53 => ?_)
   refine qv (fun w hS => (yOr rfl rfl (fun hB => (g53.1 hB)))) ?_
   clear hS; refine qnil (fun w hS => ?_)
   show Code.wpIn _ _ _ _ _ _ _
   refine condX rfl (fun c54 => ?_) (fun c54 => ?_)
   ·
    simp only [BS, ne_eq] at c54
    have hskip : (curS t now).getD c.length (-1) < 0 ∨ many = 0 := by rw [cur_at hcl]; exact c54
    refine wpIn_ret (thenR ?_)
    refine leafD hS (fun w hS => (results_none rfl _ _ _)) (fun w hS => ?_)
    exact ⟨L2, hS.sub (.cons _ (.cons _ (.cons _ (.cons _ (.cons _ (.cons _ (.cons _ (List.Sublist.refl _)))))))), .inl ⟨_, by unfold ChZ at *; rw [ch_skip hskip]; exact hz1, hcb⟩⟩
   ·
    simp only [BS, ne_eq] at c54
    have hmore : ¬ ((curS t now).getD c.length (-1) < 0 ∨ many = 0) := by rw [cur_at hcl]; omega
    obtain ⟨hcf, hfo⟩ := cur_fct (now := now) (i := c.length) hok (by omega)
    obtain ⟨bf, of, csf, haf, -, hcf2, hRf, -⟩ := sl_at hF (fct_get hcf)
    obtain ⟨mv, rfl, hf1, hf2, hf3, hMm⟩ := id hRf
    obtain ⟨am, cm, rfl, hmcap, hmmx, -⟩ := id hMm
    have hnm := hfo.nm
    refine skipX ?_
    show Code.wpIn _ _ _ _ _ _ _
    refine seqX ?_
    refine region_anyX (C := (fun w => StX [] w0 w (obj D (.deferred (some [])) :: blk b6 [.func (.yield yl) #[] #[]] 212 :: blk i9 [.slice asv t.ticks.toNat csv] 121 :: blk i8 [.int .i64 many] 3 :: blk i7 [.int .i64 (c.length : Int)] 3 :: blk i6 (chC (c ++ [-1])) 113 :: blk i5 [.pointer (some ⟨bk, 0, none⟩)] 107 :: L2))) mixed 14 16 (by kernel_rfl) rfl hS (fun _ h => h) ?_
    clear hS; intro w hS
    refine hv (fun w hS => (yLdB rfl Tryz.isAgg107 (hS.at _) rfl)) ?_
    refine hv (fun w hS => (yNil rfl)) ?_
    refine hv (fun w hS => (fa123_0 rfl)) ?_
    refine hv (fun w hS => (fa29_6 rfl)) ?_
    refine hv (fun w hS => (yLdB rfl Tryz.isAgg27 (rd w hS).1 rfl)) ?_
    refine hv (fun w hS => (yLdB rfl Tryz.isAgg107 (hS.at _) rfl)) ?_
    refine hv (fun w hS => (yNil rfl)) ?_
    refine hv (fun w hS => (fa123_3 rfl)) ?_
    refine hv (fun w hS => (yLdB rfl Tryz.isAgg39 (rd w hS).1 rfl)) ?_
    refine hv (fun w hS => (yLdB rfl Tryz.isAgg3 (hS.at _) rfl)) ?_
    refine hv (fun w hS => (yIxa rfl rfl rfl Tryz.runUnderlying39 Tryz.sizeOf3 (by omega) (by omega))) ?_
    refine hv (fun w hS => (yLd rfl Tryz.isAgg3 (sl_cell (rd w hS).2.2.1 hcx))) ?_
    refine hv (fun w hS => (yIxa rfl haf (rfl.trans (congrArg (Value.int .i64) (show curOf t now c.length = (((curOf t now c.length).toNat : Nat) : Int) by omega))) Tryz.runUnderlying27 Tryz.sizeOf61 (by omega) (by omega))) ?_
    refine hv (fun w hS => (yLdA rfl Tryz.isAgg61 Tryz.sizeOf61 (hcf2.ext hS.ext) rfl)) ?_
    refine hnil ?_
    show wpA _ _ _ _ _ _ _ _ _ _
    refine a_step (i := 14) (is := []) (by kernel_rfl) ⟨?_, trivial⟩
    refine ⟨_, rfl, ?_⟩
    refine salloc hS Tryz.zeroValue61 rfl ?_; clear hS; intro b9 w hS
    refine nil ?_
    refine ⟨fun _ => hS.sub (.cons _ (List.Sublist.refl _)), ?_⟩
    show wpA _ _ _ _ _ _ _ _ _ _
    refine a_step (i := 15) (is := []) (by kernel_rfl) ⟨?_, trivial⟩
    refine ⟨_, rfl, ?_⟩
    refine sst hS rfl rfl Tryz.sizeOf61 rfl rfl rfl rfl ?_; clear hS; intro w hS
    refine nil ?_
    refine ⟨fun _ => hS.sub (.cons _ (List.Sublist.refl _)), ?_⟩
    show wpA _ _ _ _ _ _ _ _ _ _
    refine a_end (by kernel_rfl) ?_
    show Code.wpIn _ _ _ _ _ _ _
    refine seqX ?_
    refine regionX rfl ?_
    refine sv (fa61_3 rfl) ?_
    refine sv (yLdB rfl Tryz.isAgg59 (hS.at _) rfl) ?_
    refine sv (yLen rfl Tryz.underlying59) ?_
    refine sv (yMove rfl) ?_
    refine nil ?_
    show Code.wpIn _ _ _ _ _ _ _
    refine blockX ?_
    refine loopM (fun f ds w zz => ∃ (Ds : List Nat), ∃ (k : Nat) (v : Int) (prk : List ChX) (L : List Bx.Item), ds = Ds.map coll ∧ f 1 = .pointer (some ⟨i7, 0, none⟩) ∧ f 2 = .pointer (some ⟨i5, 0, none⟩) ∧ f 3 = .pointer (some ⟨i8, 0, none⟩) ∧ f 4 = .pointer (some ⟨i6, 0, none⟩) ∧ f 5 = .pointer (some ⟨i9, 0, none⟩) ∧ f 6 = .pointer (some ⟨b6, 0, none⟩) ∧ f 9 = .pointer (some ⟨b9, 0, none⟩) ∧ f 70 = .slice am (fct t.fcs (curOf t now c.length).toNat).members.length cm ∧ f 71 = .int .i64 ((fct t.fcs (curOf t now c.length).toNat).members.length : Int) ∧ f 72 = .int .i64 (k : Int) ∧ StX [] w0 w (packI (marks Ds) :: blk b9 [.int .i64 (fct t.fcs (curOf t now c.length).toNat).centre, .int .i64 (fct t.fcs (curOf t now c.length).toNat).issued, .int .i64 (fct t.fcs (curOf t now c.length).toNat).frm, .slice am (fct t.fcs (curOf t now c.length).toNat).members.length cm] 61 :: blk b6 [.func (.yield yl) #[] #[]] 212 :: blk i9 [.slice asv t.ticks.toNat csv] 121 :: blk i8 [.int .i64 many] 3 :: blk i7 [.int .i64 (c.length : Int)] 3 :: blk i6 (chC (c ++ [v])) 113 :: blk i5 [.pointer (some ⟨bk, 0, none⟩)] 107 :: L) ∧ (k ≤ (fct t.fcs (curOf t now c.length).toNat).members.length) ∧ (Cb true (xs ++ prk) L) ∧ (prk.map (·.1) = chM t (curS t now) m c many sp (fct t.fcs (curOf t now c.length).toNat) k) ∧ zz = (fct t.fcs (curOf t now c.length).toNat).members.length - k) _ ⟨_, _, rfl, [D], 0, -1, [], L2, rfl, rfl, rfl, rfl, rfl, rfl, rfl, rfl, rfl, rfl, rfl, (chmark hS), (Nat.zero_le _), (by rw [List.append_nil]; exact hcb), (rfl), rfl⟩ ?_
    clear hS
    rintro f _ w _ ⟨Ds, k, v, prk, L, rfl, h1, h2, h3, h4, h5, h6, h9, h70, h71, h72, hS, hk, hcb, hzk, rfl⟩
    clear rd
    have rd : ∀ w, StX [] w0 w (packI (marks Ds) :: blk b9 [.int .i64 (fct t.fcs (curOf t now c.length).toNat).centre, .int .i64 (fct t.fcs (curOf t now c.length).toNat).issued, .int .i64 (fct t.fcs (curOf t now c.length).toNat).frm, .slice am (fct t.fcs (curOf t now c.length).toNat).members.length cm] 61 :: blk b6 [.func (.yield yl) #[] #[]] 212 :: blk i9 [.slice asv t.ticks.toNat csv] 121 :: blk i8 [.int .i64 many] 3 :: blk i7 [.int .i64 (c.length : Int)] 3 :: blk i6 (chC (c ++ [v])) 113 :: blk i5 [.pointer (some ⟨bk, 0, none⟩)] 107 :: L) → RdC bk T [.int .i64 t.table.mean, cv, .slice ag t.gauges.length cg, .int .i64 t.wrong, .int .i64 t.frm, .int .i64 t.ticks, .slice ak t.ctrs.length ck, .slice ae t.fcs.length ce, .int .i64 t.least, .int .i64 t.most, .int .i64 t.rate, .int .i64 t.quorum, .int .i64 now, .slice aw t.ticks.toNat cw, .slice (some ⟨bq, oq, none⟩) t.ctrs.length cx, ov] t now aw (some ⟨bq, oq, none⟩) asv cw cx csv (sp) w := fun w hS => hRd _ w L [packI (marks Ds), blk b9 [.int .i64 (fct t.fcs (curOf t now c.length).toNat).centre, .int .i64 (fct t.fcs (curOf t now c.length).toNat).issued, .int .i64 (fct t.fcs (curOf t now c.length).toNat).frm, .slice am (fct t.fcs (curOf t now c.length).toNat).members.length cm] 61, blk b6 [.func (.yield yl) #[] #[]] 212, blk i9 [.slice asv t.ticks.toNat csv] 121, blk i8 [.int .i64 many] 3, blk i7 [.int .i64 (c.length : Int)] 3, blk i6 (chC (c ++ [v])) 113, blk i5 [.pointer (some ⟨bk, 0, none⟩)] 107] hcb hS
    refine seqX ?_
    refine regionX rfl ?_
    refine sv (yLss h72 h71) ?_
    refine nil ?_
    show Code.wpIn _ _ _ _ _ _ _
    refine seqX ?_
    refine condX rfl (fun c73 => ?_) (fun c73 => ?_)
    ·
     simp only [BS, ne_eq] at c73
     have hkl : k < (fct t.fcs (curOf t now c.length).toNat).members.length := by omega
     refine skipX ?_
     show Code.wpIn _ _ _ _ _ _ _
     refine seqX ?_
     refine blockX ?_
     refine seqX ?_
     refine regionX rfl ?_
     refine sv (yMove h72) ?_
     refine sv (yAsg rfl) ?_
     refine nil ?_
     show Code.wpIn _ _ _ _ _ _ _
     refine seqX ?_
     refine regionX rfl ?_
     refine sv (yLdB h1 Tryz.isAgg3 (hS.at _) rfl) ?_
     refine sv (yMove rfl) ?_
     refine sv (Y.to (yIxA h4 rfl Tryz.runUnderlying113 Tryz.sizeOf3 (by omega) (by omega)) (congrArg (fun q => Value.pointer (some ⟨i6, q, none⟩)) (show 0 + ((c.length : Nat) : Int).toNat * 1 = c.length by omega))) ?_
     refine sst (vs := [.int .i64 (k : Int)]) hS rfl rfl Tryz.sizeOf3 rfl rfl (by rw [Nat.ble_eq]; show c.length + 1 ≤ 4; omega) rfl ?_; clear hS; intro w hS; rw [chC_set2 v (k : Int) c (by omega)] at hS
     clear rd
     have rd : ∀ w A, (∀ it ∈ A, True) → StX [] w0 w (A ++ (packI (marks Ds) :: blk b9 [.int .i64 (fct t.fcs (curOf t now c.length).toNat).centre, .int .i64 (fct t.fcs (curOf t now c.length).toNat).issued, .int .i64 (fct t.fcs (curOf t now c.length).toNat).frm, .slice am (fct t.fcs (curOf t now c.length).toNat).members.length cm] 61 :: blk b6 [.func (.yield yl) #[] #[]] 212 :: blk i9 [.slice asv t.ticks.toNat csv] 121 :: blk i8 [.int .i64 many] 3 :: blk i7 [.int .i64 (c.length : Int)] 3 :: blk i6 (chC (c ++ [(k : Int)])) 113 :: blk i5 [.pointer (some ⟨bk, 0, none⟩)] 107 :: L)) → RdC bk T [.int .i64 t.table.mean, cv, .slice ag t.gauges.length cg, .int .i64 t.wrong, .int .i64 t.frm, .int .i64 t.ticks, .slice ak t.ctrs.length ck, .slice ae t.fcs.length ce, .int .i64 t.least, .int .i64 t.most, .int .i64 t.rate, .int .i64 t.quorum, .int .i64 now, .slice aw t.ticks.toNat cw, .slice (some ⟨bq, oq, none⟩) t.ctrs.length cx, ov] t now aw (some ⟨bq, oq, none⟩) asv cw cx csv (sp) w := fun w A _ hS => hRd _ w L (A ++ [packI (marks Ds), blk b9 [.int .i64 (fct t.fcs (curOf t now c.length).toNat).centre, .int .i64 (fct t.fcs (curOf t now c.length).toNat).issued, .int .i64 (fct t.fcs (curOf t now c.length).toNat).frm, .slice am (fct t.fcs (curOf t now c.length).toNat).members.length cm] 61, blk b6 [.func (.yield yl) #[] #[]] 212, blk i9 [.slice asv t.ticks.toNat csv] 121, blk i8 [.int .i64 many] 3, blk i7 [.int .i64 (c.length : Int)] 3, blk i6 (chC (c ++ [(k : Int)])) 113, blk i5 [.pointer (some ⟨bk, 0, none⟩)] 107]) hcb (by rw [List.append_assoc]; exact hS)
     refine nil ?_
     show Code.wpIn _ _ _ _ _ _ _
     refine seqX ?_
     refine regionX rfl ?_
     refine sv (yLdB h5 Tryz.isAgg121 (hS.at _) rfl) ?_
     refine scall Tryz.call120 (.cons rfl .nil) (c_CloneS (rd w [] (fun _ h => nomatch h) hS).2.2.2 hsl (by omega)) ?_
     rintro lv w hM; replace hS := hS.call1 hM; clear hM
     obtain ⟨gl, cl, rfl, -⟩ := row_some (hS.row lv) (by omega)
     refine sv (yAsg rfl) ?_
     refine nil ?_
     show Code.wpIn _ _ _ _ _ _ _
     refine seqX ?_
     refine regionX rfl ?_
     refine sv (yMove rfl) ?_
     refine sv (yLdB h2 Tryz.isAgg107 (hS.at _) rfl) ?_
     refine sv (yLdBA h9 Tryz.isAgg61 Tryz.sizeOf61 (hS.at _) rfl rfl) ?_
     refine sv (yMove rfl) ?_
     refine scall Tryz.call83 (.cons rfl (.cons rfl (.cons rfl .nil))) (c_tubeS ((rd w [_] (fun _ _ => trivial) hS).kn (RTable.stays _ _ _ _ hS.ext hT) (hG.ext RGauge.stays hS.ext) (hC.ext RCtr.stays hS.ext) (hF.ext RFct.stays hS.ext)) hok (hg.ext hS.ext) hfo hkl (hMm.ext RRow.stays hS.ext)) ?_
     rintro tv w hM; replace hS := hS.call1 hM; clear hM
     have htl := tubeS_lbd hok hfo hkl
     refine scall Tryz.call82 (.cons rfl (.cons rfl .nil)) (c_meetS (o := 0) (ss := sp) (os := tubeS t (fct t.fcs (curOf t now c.length).toNat) (mem (fct t.fcs (curOf t now c.length).toNat) k)) (hS.perm (List.Perm.swap _ _ _)) (fun q w2 h2 => sl_spans (h2.row tv) (tubeS_len ..) (lbd_i64 htl)) (by rw [tubeS_len]; exact Nat.le_refl _) hsl (by omega) (by omega)) ?_
     rintro _ w ⟨-, hM⟩; clear hS; have hS := hM; clear hM
     rw [meetK_all (by rw [hsl, tubeS_len])] at hS
     replace hS := hS.sub (.cons_cons _ (.cons _ (List.Sublist.refl _)))
     have hll : (meetS sp (tubeS t (fct t.fcs (curOf t now c.length).toNat) (mem (fct t.fcs (curOf t now c.length).toNat) k))).length = t.ticks.toNat := by rw [meetS_len (by rw [hsl, tubeS_len])]; exact hsl
     have hlb : LBd 40000000 (meetS sp (tubeS t (fct t.fcs (curOf t now c.length).toNat) (mem (fct t.fcs (curOf t now c.length).toNat) k))) := meet_sbd (by rw [hsl, tubeS_len]) hsb htl
     refine nil ?_
     show Code.wpIn _ _ _ _ _ _ _
     refine seqX ?_
     refine regionX rfl ?_
     refine sv (yLdB h2 Tryz.isAgg107 (hS.at _) rfl) ?_
     refine sv (yLdBA h4 Tryz.isAgg113 Tryz.sizeOf113 (hS.at _) rfl rfl) ?_
     refine sv (yLdB h1 Tryz.isAgg3 (hS.at _) rfl) ?_
     refine sv (Y.to (yAdd rfl rfl ⟨by omega, by omega⟩) (congrArg (Value.int .i64) (show (c.length : Int) + 1 = (((c ++ [(k : Int)]).length : Nat) : Int) by simp))) ?_
     refine sv (yLdB h3 Tryz.isAgg3 (hS.at _) rfl) ?_
     refine sv (ySub rfl rfl ⟨by omega, by omega⟩) ?_
     refine sv (yMove rfl) ?_
     refine scall Tryz.call118 (.cons rfl (.cons rfl (.cons rfl (.cons rfl (.cons rfl .nil))))) (c_choices (c := c ++ [(k : Int)]) (nn := t.ticks.toNat)) ?_
     rintro _ w ⟨j5, j6, j7, j8, j9, rfl, hM⟩; replace hS := hS.call hM; clear hM
     refine nil ?_
     show Code.wpIn _ _ _ _ _ _ _
     refine blockX ?_
     refine rangeQ (R := [blk j9 [.slice (some ⟨gl, 0, none⟩) t.ticks.toNat cl] 121, blk j8 [.int .i64 (many - 1)] 3, blk j7 [.int .i64 ((c ++ [(k : Int)]).length : Int)] 3, blk j6 (chC (c ++ [(k : Int)])) 113, blk j5 [.pointer (some ⟨bk, 0, none⟩)] 107]) (L0 := rowI (.slice (some ⟨gl, 0, none⟩) t.ticks.toNat cl) 74 2 t.ticks.toNat ((meetS sp (tubeS t (fct t.fcs (curOf t now c.length).toNat) (mem (fct t.fcs (curOf t now c.length).toNat) k))).flatMap spanC) :: packI (marks Ds) :: blk b9 [.int .i64 (fct t.fcs (curOf t now c.length).toNat).centre, .int .i64 (fct t.fcs (curOf t now c.length).toNat).issued, .int .i64 (fct t.fcs (curOf t now c.length).toNat).frm, .slice am (fct t.fcs (curOf t now c.length).toNat).members.length cm] 61 :: blk b6 [.func (.yield yl) #[] #[]] 212 :: blk i9 [.slice asv t.ticks.toNat csv] 121 :: blk i8 [.int .i64 many] 3 :: blk i7 [.int .i64 (c.length : Int)] 3 :: blk i6 (chC (c ++ [(k : Int)])) 113 :: blk i5 [.pointer (some ⟨bk, 0, none⟩)] 107 :: L) (ps := [94, 95]) rfl Tryz.call168 hS (IH m rfl (c ++ [(k : Int)]) (many - 1) (meetS sp (tubeS t (fct t.fcs (curOf t now c.length).toNat) (mem (fct t.fcs (curOf t now c.length).toNat) k))) (some ⟨gl, 0, none⟩) cl j5 j6 j7 j8 j9 (by simp; omega) (by omega) (by omega) hll hlb) (fun cc pre L => (cc = none ∧ ∃ L2, L = rowI (.slice (some ⟨gl, 0, none⟩) t.ticks.toNat cl) 74 2 t.ticks.toNat ((meetS sp (tubeS t (fct t.fcs (curOf t now c.length).toNat) (mem (fct t.fcs (curOf t now c.length).toNat) k))).flatMap spanC) :: packI (marks Ds) :: blk b9 [.int .i64 (fct t.fcs (curOf t now c.length).toNat).centre, .int .i64 (fct t.fcs (curOf t now c.length).toNat).issued, .int .i64 (fct t.fcs (curOf t now c.length).toNat).frm, .slice am (fct t.fcs (curOf t now c.length).toNat).members.length cm] 61 :: blk b6 [.func (.yield yl) #[] #[]] 212 :: blk i9 [.slice asv t.ticks.toNat csv] 121 :: blk i8 [.int .i64 many] 3 :: blk i7 [.int .i64 (c.length : Int)] 3 :: blk i6 (chC (c ++ [(k : Int)])) 113 :: blk i5 [.pointer (some ⟨bk, 0, none⟩)] 107 :: L2 ∧ Cb true (xs ++ (prk ++ pre)) L2) ∨ (cc = some .ret ∧ ∃ L2, L = rowI (.slice (some ⟨gl, 0, none⟩) t.ticks.toNat cl) 74 2 t.ticks.toNat ((meetS sp (tubeS t (fct t.fcs (curOf t now c.length).toNat) (mem (fct t.fcs (curOf t now c.length).toNat) k))).flatMap spanC) :: packI (marks Ds) :: blk b9 [.int .i64 (fct t.fcs (curOf t now c.length).toNat).centre, .int .i64 (fct t.fcs (curOf t now c.length).toNat).issued, .int .i64 (fct t.fcs (curOf t now c.length).toNat).frm, .slice am (fct t.fcs (curOf t now c.length).toNat).members.length cm] 61 :: blk b6 [.func (.yield yl) #[] #[]] 212 :: blk i9 [.slice asv t.ticks.toNat csv] 121 :: blk i8 [.int .i64 many] 3 :: blk i7 [.int .i64 (c.length : Int)] 3 :: blk i6 (chC (c ++ [(k : Int)])) 113 :: blk i5 [.pointer (some ⟨bk, 0, none⟩)] 107 :: L2 ∧ Cb false (xs ++ (prk ++ pre)) L2)) (.inl ⟨rfl, L, rfl, by rw [List.append_nil]; exact hcb⟩) (fun _ => rfl) (fun pre w L M hcb2 hS => by
      obtain ⟨-, L2, rfl, hcb3⟩ := hcb2.resolve_right (fun h => by cases h.1)
      have hr := hRd _ w L2 [rowI (.slice (some ⟨gl, 0, none⟩) t.ticks.toNat cl) 74 2 t.ticks.toNat ((meetS sp (tubeS t (fct t.fcs (curOf t now c.length).toNat) (mem (fct t.fcs (curOf t now c.length).toNat) k))).flatMap spanC), packI (marks Ds), blk b9 [.int .i64 (fct t.fcs (curOf t now c.length).toNat).centre, .int .i64 (fct t.fcs (curOf t now c.length).toNat).issued, .int .i64 (fct t.fcs (curOf t now c.length).toNat).frm, .slice am (fct t.fcs (curOf t now c.length).toNat).members.length cm] 61, blk b6 [.func (.yield yl) #[] #[]] 212, blk i9 [.slice asv t.ticks.toNat csv] 121, blk i8 [.int .i64 many] 3, blk i7 [.int .i64 (c.length : Int)] 3, blk i6 (chC (c ++ [(k : Int)])) 113, blk i5 [.pointer (some ⟨bk, 0, none⟩)] 107] hcb3 (hS.sub (List.sublist_append_left _ M))
      exact ⟨hr.1, hr.2.1, hr.2.2.1, sl_spans ((hS.sub (List.sublist_append_left _ M)).row (.slice (some ⟨gl, 0, none⟩) t.ticks.toNat cl)) hll (lbd_i64 hlb)⟩) ?_ ?_ ?_
     ·
      clear hS
      intro yl2 pre x w L M M0 hT hsub hcb2 hS
      obtain ⟨-, L2, rfl, hcb⟩ := hcb2.resolve_right (fun h => by cases h.1)
      obtain ⟨hTp, hTs, hTl⟩ := hT.last
      obtain ⟨⟨xc, xs2⟩, xv⟩ := x
      obtain ⟨axv, cxv, hxv⟩ := hTs
      obtain rfl : xv = _ := hxv
      replace hS : StX [] w0 w (rowI (.slice (some ⟨gl, 0, none⟩) t.ticks.toNat cl) 74 2 t.ticks.toNat ((meetS sp (tubeS t (fct t.fcs (curOf t now c.length).toNat) (mem (fct t.fcs (curOf t now c.length).toNat) k))).flatMap spanC) :: packI (marks Ds) :: blk b9 [.int .i64 (fct t.fcs (curOf t now c.length).toNat).centre, .int .i64 (fct t.fcs (curOf t now c.length).toNat).issued, .int .i64 (fct t.fcs (curOf t now c.length).toNat).frm, .slice am (fct t.fcs (curOf t now c.length).toNat).members.length cm] 61 :: blk b6 [.func (.yield yl) #[] #[]] 212 :: blk i9 [.slice asv t.ticks.toNat csv] 121 :: blk i8 [.int .i64 many] 3 :: blk i7 [.int .i64 (c.length : Int)] 3 :: blk i6 (chC (c ++ [(k : Int)])) 113 :: blk i5 [.pointer (some ⟨bk, 0, none⟩)] 107 :: (L2 ++ M)) := hS
      refine seqX ?_
      refine regionX rfl ?_
      refine salloc hS Tryz.zeroValue113 rfl ?_; clear hS; intro b12 w hS
      refine sst hS rfl rfl Tryz.sizeOf113 rfl rfl rfl rfl ?_; clear hS; intro w hS
      refine nil ?_
      show Code.wpIn _ _ _ _ _ _ _
      refine regionX rfl ?_
      refine sv (yAsg rfl) ?_
      refine nil ?_
      refine ⟨_, blk b12 (chC xc) 113 :: rowI (.slice (some ⟨gl, 0, none⟩) t.ticks.toNat cl) 74 2 t.ticks.toNat ((meetS sp (tubeS t (fct t.fcs (curOf t now c.length).toNat) (mem (fct t.fcs (curOf t now c.length).toNat) k))).flatMap spanC) :: packI (marks Ds) :: blk b9 [.int .i64 (fct t.fcs (curOf t now c.length).toNat).centre, .int .i64 (fct t.fcs (curOf t now c.length).toNat).issued, .int .i64 (fct t.fcs (curOf t now c.length).toNat).frm, .slice am (fct t.fcs (curOf t now c.length).toNat).members.length cm] 61 :: blk b6 [.func (.yield yl) #[] #[]] 212 :: blk i9 [.slice asv t.ticks.toNat csv] 121 :: blk i8 [.int .i64 many] 3 :: blk i7 [.int .i64 (c.length : Int)] 3 :: blk i6 (chC (c ++ [(k : Int)])) 113 :: blk i5 [.pointer (some ⟨bk, 0, none⟩)] 107 :: L2, rfl, hS, ?_⟩
      clear hS hsub; clear M; intro M w hsub hS; replace hS : StX [] w0 w (blk b12 (chC xc) 113 :: rowI (.slice (some ⟨gl, 0, none⟩) t.ticks.toNat cl) 74 2 t.ticks.toNat ((meetS sp (tubeS t (fct t.fcs (curOf t now c.length).toNat) (mem (fct t.fcs (curOf t now c.length).toNat) k))).flatMap spanC) :: packI (marks Ds) :: blk b9 [.int .i64 (fct t.fcs (curOf t now c.length).toNat).centre, .int .i64 (fct t.fcs (curOf t now c.length).toNat).issued, .int .i64 (fct t.fcs (curOf t now c.length).toNat).frm, .slice am (fct t.fcs (curOf t now c.length).toNat).members.length cm] 61 :: blk b6 [.func (.yield yl) #[] #[]] 212 :: blk i9 [.slice asv t.ticks.toNat csv] 121 :: blk i8 [.int .i64 many] 3 :: blk i7 [.int .i64 (c.length : Int)] 3 :: blk i6 (chC (c ++ [(k : Int)])) 113 :: blk i5 [.pointer (some ⟨bk, 0, none⟩)] 107 :: (L2 ++ M)) := hS
      refine blockX ?_
      refine seqX ?_
      refine regionL ?_
      refine preX 3 rfl ?_
      refine sv (yLdB h6 Tryz.isAgg212 (hS.at _) rfl) ?_
      refine sv (yLdBA rfl Tryz.isAgg113 Tryz.sizeOf113 (hS.at _) rfl rfl) ?_
      refine sv (yMove rfl) ?_
      refine nil ?_
      show wpListIn _ _ _ _ _ _ _ _
      replace hS := hS.perm (perm_mid [blk b12 (chC xc) 113, rowI (.slice (some ⟨gl, 0, none⟩) t.ticks.toNat cl) 74 2 t.ticks.toNat ((meetS sp (tubeS t (fct t.fcs (curOf t now c.length).toNat) (mem (fct t.fcs (curOf t now c.length).toNat) k))).flatMap spanC), packI (marks Ds), blk b9 [.int .i64 (fct t.fcs (curOf t now c.length).toNat).centre, .int .i64 (fct t.fcs (curOf t now c.length).toNat).issued, .int .i64 (fct t.fcs (curOf t now c.length).toNat).frm, .slice am (fct t.fcs (curOf t now c.length).toNat).members.length cm] 61, blk b6 [.func (.yield yl) #[] #[]] 212, blk i9 [.slice asv t.ticks.toNat csv] 121, blk i8 [.int .i64 many] 3, blk i7 [.int .i64 (c.length : Int)] 3, blk i6 (chC (c ++ [(k : Int)])) 113, blk i5 [.pointer (some ⟨bk, 0, none⟩)] 107] L2 M)
      refine yieldR rfl (.cons rfl (.cons rfl .nil)) (hY (xs ++ (prk ++ pre)) ((xc, xs2), .slice axv t.ticks.toNat cxv) _ L2 ([blk b12 (chC xc) 113, rowI (.slice (some ⟨gl, 0, none⟩) t.ticks.toNat cl) 74 2 t.ticks.toNat ((meetS sp (tubeS t (fct t.fcs (curOf t now c.length).toNat) (mem (fct t.fcs (curOf t now c.length).toNat) k))).flatMap spanC), packI (marks Ds), blk b9 [.int .i64 (fct t.fcs (curOf t now c.length).toNat).centre, .int .i64 (fct t.fcs (curOf t now c.length).toNat).issued, .int .i64 (fct t.fcs (curOf t now c.length).toNat).frm, .slice am (fct t.fcs (curOf t now c.length).toNat).members.length cm] 61, blk b6 [.func (.yield yl) #[] #[]] 212, blk i9 [.slice asv t.ticks.toNat csv] 121, blk i8 [.int .i64 many] 3, blk i7 [.int .i64 (c.length : Int)] 3, blk i6 (chC (c ++ [(k : Int)])) 113, blk i5 [.pointer (some ⟨bk, 0, none⟩)] 107] ++ M) (ChT.mk (by exact ch_trace hmore (by rw [cur_at hcl]) hkl hz1 hzk hTp) ⟨_, _, rfl⟩ (fun w hw hr => hTl w (fun it hit => hw it (List.mem_append_right _ (hsub it hit))) ⟨hr.1, hr.2.1, hr.2.2.1, sl_spans (hw (rowI (.slice (some ⟨gl, 0, none⟩) t.ticks.toNat cl) 74 2 t.ticks.toNat ((meetS sp (tubeS t (fct t.fcs (curOf t now c.length).toNat) (mem (fct t.fcs (curOf t now c.length).toNat) k))).flatMap spanC)) (by simp)) hll (lbd_i64 hlb)⟩)) hcb hS) ?_
      clear hS hcb; rintro _ w ⟨bq, L3, rfl, hcb, hS⟩
      replace hS : StX [] w0 w (blk b12 (chC xc) 113 :: rowI (.slice (some ⟨gl, 0, none⟩) t.ticks.toNat cl) 74 2 t.ticks.toNat ((meetS sp (tubeS t (fct t.fcs (curOf t now c.length).toNat) (mem (fct t.fcs (curOf t now c.length).toNat) k))).flatMap spanC) :: packI (marks Ds) :: blk b9 [.int .i64 (fct t.fcs (curOf t now c.length).toNat).centre, .int .i64 (fct t.fcs (curOf t now c.length).toNat).issued, .int .i64 (fct t.fcs (curOf t now c.length).toNat).frm, .slice am (fct t.fcs (curOf t now c.length).toNat).members.length cm] 61 :: blk b6 [.func (.yield yl) #[] #[]] 212 :: blk i9 [.slice asv t.ticks.toNat csv] 121 :: blk i8 [.int .i64 many] 3 :: blk i7 [.int .i64 (c.length : Int)] 3 :: blk i6 (chC (c ++ [(k : Int)])) 113 :: blk i5 [.pointer (some ⟨bk, 0, none⟩)] 107 :: (L3 ++ M)) := hS.perm (perm_mid [blk b12 (chC xc) 113, rowI (.slice (some ⟨gl, 0, none⟩) t.ticks.toNat cl) 74 2 t.ticks.toNat ((meetS sp (tubeS t (fct t.fcs (curOf t now c.length).toNat) (mem (fct t.fcs (curOf t now c.length).toNat) k))).flatMap spanC), packI (marks Ds), blk b9 [.int .i64 (fct t.fcs (curOf t now c.length).toNat).centre, .int .i64 (fct t.fcs (curOf t now c.length).toNat).issued, .int .i64 (fct t.fcs (curOf t now c.length).toNat).frm, .slice am (fct t.fcs (curOf t now c.length).toNat).members.length cm] 61, blk b6 [.func (.yield yl) #[] #[]] 212, blk i9 [.slice asv t.ticks.toNat csv] 121, blk i8 [.int .i64 many] 3, blk i7 [.int .i64 (c.length : Int)] 3, blk i6 (chC (c ++ [(k : Int)])) 113, blk i5 [.pointer (some ⟨bk, 0, none⟩)] 107] L3 M).symm
      refine endX rfl ?_
      refine sv (yNot rfl) ?_
      refine nil ?_
      show Code.wpIn _ _ _ _ _ _ _
      refine condX rfl (fun c100 => ?_) (fun c100 => ?_)
      ·
       obtain rfl : bq = false := by cases bq; rfl; cases c100
       refine wpIn_ret (blockR ?_)
       exact ⟨_, (.inr ⟨rfl, L3, rfl, by rw [List.append_assoc, List.append_assoc] at hcb; exact hcb⟩), hS.sub (.cons _ (List.Sublist.refl _))⟩
      ·
       obtain rfl : bq = true := by cases bq; cases c100; rfl
       refine skipX ?_
       exact ⟨_, (.inl ⟨rfl, L3, rfl, by rw [List.append_assoc, List.append_assoc] at hcb; exact hcb⟩), (hS.sub (.cons _ (List.Sublist.refl _)))⟩
     ·
      clear hS
      intro D2 w L xs3 hZ2 hcb hS
      have hcb0 := hcb.resolve_right (fun h => by cases h.1)
      clear hcb
      obtain ⟨-, L2, rfl, hcb⟩ := hcb0
      replace hS : StX [] w0 w (obj D2 (.deferred (some [])) :: rowI (.slice (some ⟨gl, 0, none⟩) t.ticks.toNat cl) 74 2 t.ticks.toNat ((meetS sp (tubeS t (fct t.fcs (curOf t now c.length).toNat) (mem (fct t.fcs (curOf t now c.length).toNat) k))).flatMap spanC) :: packI (marks Ds) :: blk b9 [.int .i64 (fct t.fcs (curOf t now c.length).toNat).centre, .int .i64 (fct t.fcs (curOf t now c.length).toNat).issued, .int .i64 (fct t.fcs (curOf t now c.length).toNat).frm, .slice am (fct t.fcs (curOf t now c.length).toNat).members.length cm] 61 :: blk b6 [.func (.yield yl) #[] #[]] 212 :: blk i9 [.slice asv t.ticks.toNat csv] 121 :: blk i8 [.int .i64 many] 3 :: blk i7 [.int .i64 (c.length : Int)] 3 :: blk i6 (chC (c ++ [(k : Int)])) 113 :: blk i5 [.pointer (some ⟨bk, 0, none⟩)] 107 :: L2) := hS
      show Code.wpIn _ _ _ _ _ _ _
      refine regionX rfl ?_
      refine sv (yAdd h72 rfl ⟨by omega, by omega⟩) ?_
      refine sv (yMove rfl) ?_
      refine nil ?_
      exact ⟨_, _, _, rfl, ⟨(D2 :: Ds), k + 1, (k : Int), prk ++ xs3, L2, rfl, h1, h2, h3, h4, h5, h6, h9, h70, h71, rfl, (chmarks hS), (by omega), (hcb), (by rw [List.map_append, hzk, show xs3.map (·.1) = _ from hZ2, chM_succ]), rfl⟩, by omega⟩
     ·
      intro D w L cc pre hcb hS
      have hcb0 := hcb.resolve_left (fun h => by cases h.1)
      clear hcb
      obtain ⟨hcc, L2, rfl, hcb⟩ := hcb0
      obtain rfl := Option.some.inj hcc
      replace hS : StX [] w0 w (obj D (.deferred (some [])) :: rowI (.slice (some ⟨gl, 0, none⟩) t.ticks.toNat cl) 74 2 t.ticks.toNat ((meetS sp (tubeS t (fct t.fcs (curOf t now c.length).toNat) (mem (fct t.fcs (curOf t now c.length).toNat) k))).flatMap spanC) :: packI (marks Ds) :: blk b9 [.int .i64 (fct t.fcs (curOf t now c.length).toNat).centre, .int .i64 (fct t.fcs (curOf t now c.length).toNat).issued, .int .i64 (fct t.fcs (curOf t now c.length).toNat).frm, .slice am (fct t.fcs (curOf t now c.length).toNat).members.length cm] 61 :: blk b6 [.func (.yield yl) #[] #[]] 212 :: blk i9 [.slice asv t.ticks.toNat csv] 121 :: blk i8 [.int .i64 many] 3 :: blk i7 [.int .i64 (c.length : Int)] 3 :: blk i6 (chC (c ++ [(k : Int)])) 113 :: blk i5 [.pointer (some ⟨bk, 0, none⟩)] 107 :: L2) := hS
      replace hS := chmarks hS
      refine wpIn_ret (blockR (blockR (thenR (thenR (blockR ?_)))))
      refine leafM hS (fun w hS => (results_none rfl _ _ _)) (fun w hS => ?_)
      exact ⟨L2, hS.sub (.cons _ (.cons _ (.cons _ (.cons _ (.cons _ (.cons _ (.cons _ (List.Sublist.refl _)))))))), .inr ⟨_, hcb⟩⟩
    ·
     simp only [BS, ne_eq] at c73
     obtain rfl : k = (fct t.fcs (curOf t now c.length).toNat).members.length := by omega
     refine exitX ?_
     show bodyPostM (FX none) 0 _ _ _ .normal _ _
     refine leafM hS (fun w hS => (results_none rfl _ _ _)) (fun w hS => ?_)
     exact ⟨L, hS.sub (.cons _ (.cons _ (.cons _ (.cons _ (.cons _ (.cons _ (.cons _ (List.Sublist.refl _)))))))), .inl ⟨xs ++ prk, ch_whole hmore (by rw [cur_at hcl]) hz1 hzk, hcb⟩⟩
  ·
   intro D w L cc pre hcb hS
   have hcb0 := hcb.resolve_left (fun h => by cases h.1)
   clear hcb
   obtain ⟨hcc, L2, rfl, hcb⟩ := hcb0
   obtain rfl := Option.some.inj hcc
   replace hS : StX [] w0 w (obj D (.deferred (some [])) :: blk b6 [.func (.yield yl) #[] #[]] 212 :: blk i9 [.slice asv t.ticks.toNat csv] 121 :: blk i8 [.int .i64 many] 3 :: blk i7 [.int .i64 (c.length : Int)] 3 :: blk i6 (chC (c ++ [-1])) 113 :: blk i5 [.pointer (some ⟨bk, 0, none⟩)] 107 :: L2) := hS
   refine wpIn_ret (blockR (thenR ?_))
   refine leafD hS (fun w hS => (results_none rfl _ _ _)) (fun w hS => ?_)
   exact ⟨L2, hS.sub (.cons _ (.cons _ (.cons _ (.cons _ (.cons _ (.cons _ (.cons _ (List.Sublist.refl _)))))))), .inr ⟨_, hcb⟩⟩
/-- The iterator of choices. -/
theorem it_choices {t : Sgt} {now : Int} {cv ov : Value} {ag ak ae aw ax : Option Addr} {cg ck ce cw cx bk : Nat} {T : TypeId} {w0 : World} (h : RSgt w0 [.int .i64 t.table.mean, cv, .slice ag t.gauges.length cg, .int .i64 t.wrong, .int .i64 t.frm, .int .i64 t.ticks, .slice ak t.ctrs.length ck, .slice ae t.fcs.length ce, .int .i64 t.least, .int .i64 t.most, .int .i64 t.rate, .int .i64 t.quorum] t) (hok : SgOk t) (hnow : Bd now 0 200000) (hg : Glb w0) : ∀ n, ItCh w0 t now cv ov ag ak ae aw ax cg ck ce cw cx bk T n
 | 0 => fun c many sp asv csv i5 i6 i7 i8 i9 hcn hm0 hm4 hsl hsb => it_chstep h hok hnow hg (fun m hm => by omega) hcn hm0 hm4 hsl hsb
 | n + 1 => fun c many sp asv csv i5 i6 i7 i8 i9 hcn hm0 hm4 hsl hsb => it_chstep h hok hnow hg (fun m hm => by
   obtain rfl : n = m := by omega
   exact it_choices h hok hnow hg n) hcn hm0 hm4 hsl hsb
end Go.Proofs.YtgidbailiababaaGreatDoor

/- part S14 -/
namespace Bx
open Go Go.RowKit
section
variable {t : Sgt} {now : Int}
theorem cho_of {tr : List ChX} {x : ChX} (h : (tr ++ [x]).map (·.1) <+: choS t now) : x.1 ∈ choS t now :=
  h.subset (by simp)
theorem cho_facts (h : SgOk t) {x : List Int × List Span} (hx : x ∈ choS t now) : x.1.length = t.ctrs.length ∧ x.2.length = t.ticks.toNat ∧ LBd 40000000 x.2 ∧ ∀ y ∈ x.1, I64 y := by
  refine ⟨?_, cho_len x hx, ch_lbd h _ _ _ _ (baseS_len t now) (baseS_lbd h now) x hx, ch_mem h _ _ _ _ (fun y hy => by cases hy) x hx⟩
  obtain ⟨d, h1, h2⟩ := ch_pre _ _ _ _ _ x hx
  rw [h1]; simpa using h2
abbrev bl (t : Sgt) (tr : List ChX) : List Bo := boxL t (tr.map (·.1))
theorem bl_no {tr : List ChX} {xc : List Int} {xs : List Span} {v : Value} (h : someT t.rate xs = false) : bl t (tr ++ [((xc, xs), v)]) = bl t tr := by
  unfold bl
  rw [List.map_append, List.map_singleton, boxL_snoc, h]; simp
theorem bl_yes {tr : List ChX} {xc : List Int} {xs : List Span} {v : Value} (h : someT t.rate xs = true) : bl t (tr ++ [((xc, xs), v)]) = bl t tr ++ [⟨xc, tightS t.rate xs⟩] := by
  unfold bl
  rw [List.map_append, List.map_singleton, boxL_snoc, h]; simp
theorem bl_bd (h : SgOk t) {tr : List ChX} {x : ChX} (hp : (tr ++ [x]).map (·.1) <+: choS t now) : (bl t tr).length < 626 := by
  have h1 := cho_bd (now := now) h
  have h2 := hp.length_le
  have h3 : (bl t tr).length ≤ (tr.map (·.1)).length := boxL_len
  rw [List.length_map] at h2 h3
  simp at h2
  omega
theorem bl_all {tr : List ChX} (hz : ChZ (choS t now) tr) : bl t tr = boxS t now := by
  unfold bl
  rw [show tr.map (·.1) = choS t now from hz]; rfl
theorem tides_lbd (h : SgOk t) : LBd 40000000 (tidesS t) := fun i hi => by
  rw [tidesS_len] at hi
  rw [spn_at (tidesS_get hi)]
  exact (tide_sbd h i).mono (by decide)
end
theorem packPush {w0 w : World} {v : Value} {z : List Int} {vs : List Value} {zs : List (List Int)} {L : List Item} (hl : vs.length = zs.length) (h : StX [] w0 w (inR v z :: packI (inI vs zs) :: L)) : StX [] w0 w (packI (inI (vs ++ [v]) (zs ++ [z])) :: L) := by
  rw [inI_snoc hl]
  exact h.packs
theorem bx_push {w0 w : World} {x1 x2 x3 x4 x5 RV : Item} {vm vl vh : Value} {zm zl zh : List Int} {ms ls hs : List Value} {zms zls zhs : List (List Int)} {L : List Item} (h1 : ms.length = zms.length) (h2 : ls.length = zls.length) (h3 : hs.length = zhs.length)
    (h : StX [] w0 w (x1 :: inR vm zm :: x2 :: x3 :: inR vl zl :: inR vh zh :: x4 :: x5 :: RV :: packI (inI ms zms) :: packI (inI ls zls) :: packI (inI hs zhs) :: L)) :
    StX [] w0 w (RV :: packI (inI (ms ++ [vm]) (zms ++ [zm])) :: packI (inI (ls ++ [vl]) (zls ++ [zl])) :: packI (inI (hs ++ [vh]) (zhs ++ [zh])) :: L) := by
  have k0 : StX [] w0 w (inR vm zm :: inR vl zl :: inR vh zh :: RV :: packI (inI ms zms) :: packI (inI ls zls) :: packI (inI hs zhs) :: L) :=
    h.sub (.cons _ (.cons_cons _ (.cons _ (.cons _ (.cons_cons _ (.cons_cons _ (.cons _ (.cons _ (List.Sublist.refl _)))))))))
  have k1 : StX [] w0 w (inR vm zm :: packI (inI ms zms) :: (inR vl zl :: inR vh zh :: RV :: packI (inI ls zls) :: packI (inI hs zhs) :: L)) := k0.perm (List.Perm.cons _ (List.perm_middle (l₁ := [_, _, _])))
  have k2 : StX [] w0 w (inR vl zl :: packI (inI ls zls) :: (packI (inI (ms ++ [vm]) (zms ++ [zm])) :: inR vh zh :: RV :: packI (inI hs zhs) :: L)) :=
    (packPush h1 k1).perm ((List.perm_middle (l₁ := [_]) (l₂ := _) (a := inR vl zl)).trans (List.Perm.cons _ (List.perm_middle (l₁ := [_, _, _]))))
  have k3 : StX [] w0 w (inR vh zh :: packI (inI hs zhs) :: (packI (inI (ls ++ [vl]) (zls ++ [zl])) :: packI (inI (ms ++ [vm]) (zms ++ [zm])) :: RV :: L)) :=
    (packPush h2 k2).perm ((List.perm_middle (l₁ := [_, _]) (l₂ := _) (a := inR vh zh)).trans (List.Perm.cons _ (List.perm_middle (l₁ := [_, _, _]))))
  have k4 := packPush h3 k3
  refine k4.perm ?_
  refine (List.perm_middle (l₁ := [_, _, _]) (a := RV) (l₂ := L)).trans (List.Perm.cons _ ?_)
  exact tight_swap _ _ _ _
theorem bxEnd {w0 w : World} {frm : Int} {bs : List Bo} (b : Bo) {nc nt : Nat} {E : TypeId} {x1 x2 x3 x4 x5 : Item} {v m l h : Value} {ms ls hs : List Value} {L : List Item} (hnc : b.mem.length = nc) (hnl : (lowB b).length = nt) (hnh : (highB b).length = nt)
    (h1 : ms.length = bs.length) (h2 : ls.length = bs.length) (h3 : hs.length = bs.length)
    (hS : StX [] w0 w (x1 :: rowI m 3 1 nc (b.mem.flatMap encI) :: x2 :: x3 :: rowI l 3 1 nt ((lowB b).flatMap encI) :: rowI h 3 1 nt ((highB b).flatMap encI) :: x4 :: x5 :: rowI v E 9 (bs.length + 1) ((bxCs frm (bs.map Bo.mem) ms ls hs).flatten ++ bxC frm b.mem m l h) :: packI (inI ms (bs.map Bo.mem)) :: packI (inI ls (bs.map lowB)) :: packI (inI hs (bs.map highB)) :: L)) :
    StX [] w0 w (rowI v E 9 (bs ++ [b]).length (bxCs frm ((bs ++ [b]).map Bo.mem) (ms ++ [m]) (ls ++ [l]) (hs ++ [h])).flatten :: packI (inI (ms ++ [m]) ((bs ++ [b]).map Bo.mem)) :: packI (inI (ls ++ [l]) ((bs ++ [b]).map lowB)) :: packI (inI (hs ++ [h]) ((bs ++ [b]).map highB)) :: L) := by
  subst hnc
  rw [List.map_append, List.map_append, List.map_append, List.map_singleton, List.map_singleton, List.map_singleton, bxCs_snoc frm b.mem m l h (by simp [h1]) (by simp [h2]) (by simp [h3]), List.flatten_append, List.flatten_singleton, List.length_append, List.length_singleton]
  have e2 : inR l (lowB b) = rowI l 3 1 nt ((lowB b).flatMap encI) := by unfold inR; rw [hnl]
  have e3 : inR h (highB b) = rowI h 3 1 nt ((highB b).flatMap encI) := by unfold inR; rw [hnh]
  rw [← e2, ← e3] at hS
  exact bx_push (by simp [h1]) (by simp [h2]) (by simp [h3]) hS
theorem cho_cells {w : World} {b n : Nat} {T : TypeId} {xc : List Int} (h : w.heap[b]? = some (.cells (chC xc).toArray T (0, 0))) (hl : xc.length = n) (hn : n ≤ 4) : Cells w b 0 (xc.flatMap encI) := by
  rw [← chC_take xc (by omega)]
  intro j u hj
  rw [List.getElem?_take] at hj
  split at hj
  · exact blk_cells h j u hj
  · cases hj
end Bx

/- part Sx1 -/
namespace Go.Proofs.YtgidbailiababaaGreatDoor
open Go Bx
theorem c_tightenN {l : List Span} {g cap nn : Nat} {r : Int} {w0 w : World} {L9 : List Bx.Item} (hl : l.length = nn) (hS : StX [] w0 w (rowI (.slice (some ⟨g, 0, none⟩) nn cap) 74 2 nn ((l).flatMap spanC) :: L9)) (hmx : nn ≤ 1000) (hlb : LBd 40000000 l) (hr : 0 ≤ r ∧ r ≤ 5000) :
  CE Tryz.prog 84 #[.slice (some ⟨g, 0, none⟩) nn cap, .int .i64 r] w (fun u w' => u = .bool (someT r l) ∧ ∃ q : List Span, (someT r l = true → q = tightS r l) ∧ StX [] w0 w' (rowI (.slice (some ⟨g, 0, none⟩) nn cap) 74 2 nn ((q).flatMap spanC) :: L9)) := by
 subst hl
 exact c_tighten hS hmx hlb hr
set_option maxHeartbeats 8000000 in
/-- (*barrage/surge.known).boxes -/
theorem c_boxes {t : Sgt} {now : Int} {cv ov : Value} {ag ak ae aw ax : Option Addr} {cg ck ce cw cx bk mo : Nat} {os : List Span} {w0 w : World} {L9 : List Bx.Item} (h : RSgt w0 [.int .i64 t.table.mean, cv, .slice ag t.gauges.length cg, .int .i64 t.wrong, .int .i64 t.frm, .int .i64 t.ticks, .slice ak t.ctrs.length ck, .slice ae t.fcs.length ce, .int .i64 t.least, .int .i64 t.most, .int .i64 t.rate, .int .i64 t.quorum] t) (hok : SgOk t) (hnow : Bd now 0 200000) (hg : Glb w0) (hown : (os = [] ∧ mo = 0 ∧ ov = .slice none 0 0) ∨ (os = baseS t now ∧ mo = t.ticks.toNat)) (hS : StX [] w0 w (blk bk [.int .i64 t.table.mean, cv, .slice ag t.gauges.length cg, .int .i64 t.wrong, .int .i64 t.frm, .int .i64 t.ticks, .slice ak t.ctrs.length ck, .slice ae t.fcs.length ce, .int .i64 t.least, .int .i64 t.most, .int .i64 t.rate, .int .i64 t.quorum, .int .i64 now, .slice aw t.ticks.toNat cw, .slice ax t.ctrs.length cx, ov] 123 :: rowI (ov) 74 2 mo ((os).flatMap spanC) :: rowI (.slice aw t.ticks.toNat cw) 74 2 t.ticks.toNat ((tidesS t).flatMap spanC) :: rowI (.slice ax t.ctrs.length cx) 3 1 t.ctrs.length ((curS t now).flatMap Bx.encI) :: L9)) : CE Tryz.prog 64 #[.pointer (some ⟨bk, 0, none⟩)] w (fun u w' => ∃ ov' ms ls hs, ms.length = (boxS t now).length ∧ ls.length = (boxS t now).length ∧ hs.length = (boxS t now).length ∧ StX [] w0 w' (rowI (u) 115 9 (boxS t now).length (bxCs t.frm ((boxS t now).map Bo.mem) ms ls hs).flatten :: packI (inI ms ((boxS t now).map Bo.mem)) :: packI (inI ls ((boxS t now).map lowB)) :: packI (inI hs ((boxS t now).map highB)) :: blk bk [.int .i64 t.table.mean, cv, .slice ag t.gauges.length cg, .int .i64 t.wrong, .int .i64 t.frm, .int .i64 t.ticks, .slice ak t.ctrs.length ck, .slice ae t.fcs.length ce, .int .i64 t.least, .int .i64 t.most, .int .i64 t.rate, .int .i64 t.quorum, .int .i64 now, .slice aw t.ticks.toNat cw, .slice ax t.ctrs.length cx, ov'] 123 :: rowI (ov') 74 2 t.ticks.toNat ((baseS t now).flatMap spanC) :: rowI (.slice aw t.ticks.toNat cw) 74 2 t.ticks.toNat ((tidesS t).flatMap spanC) :: rowI (.slice ax t.ctrs.length cx) 3 1 t.ctrs.length ((curS t now).flatMap Bx.encI) :: L9)) := by
 obtain ⟨hT, hG, hw64, hf64, hk64, hC, hF, hl64, hm64, hr64, hq64⟩ := RSgt.parts h
 have htk := hok.tk
 have hnc := hok.nc
 have hn4 := hok.nums4
 refine enterX Tryz.func64 rfl Tryz.ntmps64 rfl ?_
 skip
 refine seqX ?_
 refine regionX rfl ?_
 refine sbox hS rfl rfl ?_; clear hS; intro b1 w hS
 refine salloc hS Tryz.zeroValue110 rfl ?_; clear hS; intro b2 w hS
 refine nil ?_
 show Code.wpIn _ _ _ _ _ _ _
 refine seqX ?_
 refine seqX ?_
 refine region_anyX (C := (fun w => w.heap[b1]? = some (.cells ([.pointer (some ⟨bk, 0, none⟩)] : List Value).toArray 107 (0, 0)))) mixed 0 7 (by kernel_rfl) rfl hS (fun w hS => (hS.at b1)) ?_
 clear hS; intro w hS
 refine hnil ?_
 refine f_step 0 (by kernel_rfl) rfl (fun _ _ _ _ h => False.elim h) (hS.at b1) (fun w hS => (yLdB rfl Tryz.isAgg107 hS rfl)) ?_
 refine f_step 1 (by kernel_rfl) rfl (fun _ _ _ _ h => False.elim h) (hS.at b1) (fun w hS => (yBuildA Tryz.zeroValue113 rfl Tryz.underlying113 Tryz.sizeOf3 .nil rfl)) ?_
 refine f_step 2 (by kernel_rfl) rfl (fun _ _ _ _ h => False.elim h) (hS.at b1) (fun w hS => (yLdB rfl Tryz.isAgg107 hS rfl)) ?_
 refine f_step 4 (by kernel_rfl) rfl (fun _ _ _ _ h => False.elim h) (hS.at b1) (fun w hS => (yLdB rfl Tryz.isAgg107 hS rfl)) ?_
 show wpA _ _ _ _ _ _ _ _ _ _
 refine a_step (i := 3) (is := []) (by kernel_rfl) ⟨?_, trivial⟩
 refine ⟨_, rfl, ?_⟩
 replace hS : StX [] w0 w (blk bk [.int .i64 t.table.mean, cv, .slice ag t.gauges.length cg, .int .i64 t.wrong, .int .i64 t.frm, .int .i64 t.ticks, .slice ak t.ctrs.length ck, .slice ae t.fcs.length ce, .int .i64 t.least, .int .i64 t.most, .int .i64 t.rate, .int .i64 t.quorum, .int .i64 now, .slice aw t.ticks.toNat cw, .slice ax t.ctrs.length cx, ov] 123 :: rowI (ov) 74 2 mo ((os).flatMap spanC) :: rowI (.slice aw t.ticks.toNat cw) 74 2 t.ticks.toNat ((tidesS t).flatMap spanC) :: rowI (.slice ax t.ctrs.length cx) 3 1 t.ctrs.length ((curS t now).flatMap Bx.encI) :: blk b2 [.slice none 0 0] 110 :: blk b1 [.pointer (some ⟨bk, 0, none⟩)] 107 :: L9) := hS.perm (List.perm_append_comm_assoc [_, _] [_, _, _, _] L9)
 refine scall Tryz.call119 (.cons rfl .nil) (c_needS ⟨cv, ag, cg, ak, ck, ae, ce, aw, cw, ax, cx, hS.at bk, RTable.stays _ _ _ _ hS.ext hT, hG.ext RGauge.stays hS.ext, hC.ext RCtr.stays hS.ext, hF.ext RFct.stays hS.ext, sl_spans (hS.row (.slice aw t.ticks.toNat cw)) (tidesS_len ..) (lbd_i64 (tides_lbd hok)), sl_ints (hS.row (.slice ax t.ctrs.length cx)) (curS_len ..) (cur_i64 hok)⟩ hok) ?_
 rintro _ w ⟨rfl, hE⟩; replace hS := hS.step hE; clear hE
 refine nil ?_
 refine ⟨fun _ => (hS.at b1), ?_⟩
 show wpA _ _ _ _ _ _ _ _ _ _
 show wpA _ _ _ _ _ _ _ _ _ _
 refine a_step (i := 5) (is := []) (by kernel_rfl) ⟨?_, trivial⟩
 refine ⟨_, rfl, ?_⟩
 refine scall Tryz.call81 (.cons rfl .nil) (c_baseS h hok hnow hg hown hS) ?_
 rintro bv w ⟨ov', hM⟩; clear hS; have hS := hM; clear hM
 obtain ⟨go, co, rfl, -⟩ := row_some (hS.row bv) (by omega)
 refine nil ?_
 refine ⟨fun _ => (hS.at b1), ?_⟩
 show wpA _ _ _ _ _ _ _ _ _ _
 show wpA _ _ _ _ _ _ _ _ _ _
 refine a_step (i := 6) (is := []) (by kernel_rfl) ⟨?_, trivial⟩
 refine ⟨_, rfl, ?_⟩
 replace hS := (StX.pack (M := inI [] []) (StX.pack (M := inI [] []) (StX.pack (M := inI [] []) hS))).nilrow 115 9
 refine scall Tryz.call118 (.cons rfl (.cons rfl (.cons rfl (.cons rfl (.cons rfl .nil))))) (c_choices (c := []) (nn := t.ticks.toNat)) ?_
 rintro _ w ⟨j5, j6, j7, j8, j9, rfl, hM⟩; replace hS := hS.call hM; clear hM
 replace hS : StX [] w0 w (blk j9 [.slice (some ⟨go, 0, none⟩) t.ticks.toNat co] 121 :: blk j8 [.int .i64 (needS t now)] 3 :: blk j7 [.int .i64 (([] : List Int).length : Int)] 3 :: blk j6 (chC ([] : List Int)) 113 :: blk j5 [.pointer (some ⟨bk, 0, none⟩)] 107 :: rowI (.slice none 0 0) 115 9 (bl t []).length (bxCs t.frm ((bl t []).map Bo.mem) [] [] []).flatten :: packI (inI [] ((bl t []).map Bo.mem)) :: packI (inI [] ((bl t []).map lowB)) :: packI (inI [] ((bl t []).map highB)) :: rowI (.slice (some ⟨go, 0, none⟩) t.ticks.toNat co) 74 2 t.ticks.toNat ((baseS t now).flatMap spanC) :: blk bk [.int .i64 t.table.mean, cv, .slice ag t.gauges.length cg, .int .i64 t.wrong, .int .i64 t.frm, .int .i64 t.ticks, .slice ak t.ctrs.length ck, .slice ae t.fcs.length ce, .int .i64 t.least, .int .i64 t.most, .int .i64 t.rate, .int .i64 t.quorum, .int .i64 now, .slice aw t.ticks.toNat cw, .slice ax t.ctrs.length cx, ov'] 123 :: rowI (ov') 74 2 t.ticks.toNat ((baseS t now).flatMap spanC) :: rowI (.slice aw t.ticks.toNat cw) 74 2 t.ticks.toNat ((tidesS t).flatMap spanC) :: rowI (.slice ax t.ctrs.length cx) 3 1 t.ctrs.length ((curS t now).flatMap Bx.encI) :: blk b2 [.slice none 0 0] 110 :: blk b1 [.pointer (some ⟨bk, 0, none⟩)] 107 :: L9) := hS
 refine nil ?_
 refine ⟨fun _ => (hS.at b1), ?_⟩
 show wpA _ _ _ _ _ _ _ _ _ _
 refine a_end (by kernel_rfl) ?_
 show Code.wpIn _ _ _ _ _ _ _
 refine blockX ?_
 refine rangeQ (R := [blk j9 [.slice (some ⟨go, 0, none⟩) t.ticks.toNat co] 121, blk j8 [.int .i64 (needS t now)] 3, blk j7 [.int .i64 (([] : List Int).length : Int)] 3, blk j6 (chC ([] : List Int)) 113, blk j5 [.pointer (some ⟨bk, 0, none⟩)] 107]) (L0 := rowI (.slice none 0 0) 115 9 (bl t []).length (bxCs t.frm ((bl t []).map Bo.mem) [] [] []).flatten :: packI (inI [] ((bl t []).map Bo.mem)) :: packI (inI [] ((bl t []).map lowB)) :: packI (inI [] ((bl t []).map highB)) :: rowI (.slice (some ⟨go, 0, none⟩) t.ticks.toNat co) 74 2 t.ticks.toNat ((baseS t now).flatMap spanC) :: blk bk [.int .i64 t.table.mean, cv, .slice ag t.gauges.length cg, .int .i64 t.wrong, .int .i64 t.frm, .int .i64 t.ticks, .slice ak t.ctrs.length ck, .slice ae t.fcs.length ce, .int .i64 t.least, .int .i64 t.most, .int .i64 t.rate, .int .i64 t.quorum, .int .i64 now, .slice aw t.ticks.toNat cw, .slice ax t.ctrs.length cx, ov'] 123 :: rowI (ov') 74 2 t.ticks.toNat ((baseS t now).flatMap spanC) :: rowI (.slice aw t.ticks.toNat cw) 74 2 t.ticks.toNat ((tidesS t).flatMap spanC) :: rowI (.slice ax t.ctrs.length cx) 3 1 t.ctrs.length ((curS t now).flatMap Bx.encI) :: blk b2 [.slice none 0 0] 110 :: blk b1 [.pointer (some ⟨bk, 0, none⟩)] 107 :: L9) (ps := [14, 15]) rfl Tryz.call168 hS (it_choices h hok hnow hg t.ctrs.length [] (needS t now) (baseS t now) (some ⟨go, 0, none⟩) co _ _ _ _ _ (by simp) (need_nn now hok) (need_le hok) (baseS_len t now) (baseS_lbd hok now)) (fun cc pre L => cc = none ∧ ∃ v ms ls hs, ms.length = (bl t pre).length ∧ ls.length = (bl t pre).length ∧ hs.length = (bl t pre).length ∧ L = rowI (v) 115 9 (bl t pre).length (bxCs t.frm ((bl t pre).map Bo.mem) ms ls hs).flatten :: packI (inI ms ((bl t pre).map Bo.mem)) :: packI (inI ls ((bl t pre).map lowB)) :: packI (inI hs ((bl t pre).map highB)) :: rowI (.slice (some ⟨go, 0, none⟩) t.ticks.toNat co) 74 2 t.ticks.toNat ((baseS t now).flatMap spanC) :: blk bk [.int .i64 t.table.mean, cv, .slice ag t.gauges.length cg, .int .i64 t.wrong, .int .i64 t.frm, .int .i64 t.ticks, .slice ak t.ctrs.length ck, .slice ae t.fcs.length ce, .int .i64 t.least, .int .i64 t.most, .int .i64 t.rate, .int .i64 t.quorum, .int .i64 now, .slice aw t.ticks.toNat cw, .slice ax t.ctrs.length cx, ov'] 123 :: rowI (ov') 74 2 t.ticks.toNat ((baseS t now).flatMap spanC) :: rowI (.slice aw t.ticks.toNat cw) 74 2 t.ticks.toNat ((tidesS t).flatMap spanC) :: rowI (.slice ax t.ctrs.length cx) 3 1 t.ctrs.length ((curS t now).flatMap Bx.encI) :: blk b2 [v] 110 :: blk b1 [.pointer (some ⟨bk, 0, none⟩)] 107 :: L9) ⟨rfl, .slice none 0 0, [], [], [], rfl, rfl, rfl, rfl⟩ (fun _ => rfl) (fun pre w L M hcb2 hS => by
  obtain ⟨-, v, ms, ls, hs, -, -, -, rfl⟩ := hcb2
  have hq := hS.sub (List.sublist_append_left _ M)
  exact ⟨hq.at bk, sl_spans (hq.row (.slice aw t.ticks.toNat cw)) (tidesS_len ..) (lbd_i64 (tides_lbd hok)), sl_ints (hq.row (.slice ax t.ctrs.length cx)) (curS_len ..) (cur_i64 hok), sl_spans (hq.row (.slice (some ⟨go, 0, none⟩) t.ticks.toNat co)) (baseS_len ..) (lbd_i64 (baseS_lbd hok now))⟩) ?_ ?_ ?_
 ·
  clear hS
  intro yl2 pre x w L M M0 hT hsub hcb2 hS
  obtain ⟨-, v, ms, ls, hs, hl1, hl2, hl3, rfl⟩ := hcb2
  obtain ⟨hTp, hTs, hTl⟩ := hT.last
  obtain ⟨⟨xc, xs2⟩, xv⟩ := x
  obtain ⟨axv, cxv, hxv⟩ := hTs
  obtain rfl : xv = _ := hxv
  obtain ⟨hxl, hxn, hxb, hxi⟩ := cho_facts hok (cho_of hTp)
  have hbb := bl_bd hok hTp
  replace hS : StX [] w0 w (rowI (v) 115 9 (bl t pre).length (bxCs t.frm ((bl t pre).map Bo.mem) ms ls hs).flatten :: packI (inI ms ((bl t pre).map Bo.mem)) :: packI (inI ls ((bl t pre).map lowB)) :: packI (inI hs ((bl t pre).map highB)) :: rowI (.slice (some ⟨go, 0, none⟩) t.ticks.toNat co) 74 2 t.ticks.toNat ((baseS t now).flatMap spanC) :: blk bk [.int .i64 t.table.mean, cv, .slice ag t.gauges.length cg, .int .i64 t.wrong, .int .i64 t.frm, .int .i64 t.ticks, .slice ak t.ctrs.length ck, .slice ae t.fcs.length ce, .int .i64 t.least, .int .i64 t.most, .int .i64 t.rate, .int .i64 t.quorum, .int .i64 now, .slice aw t.ticks.toNat cw, .slice ax t.ctrs.length cx, ov'] 123 :: rowI (ov') 74 2 t.ticks.toNat ((baseS t now).flatMap spanC) :: rowI (.slice aw t.ticks.toNat cw) 74 2 t.ticks.toNat ((tidesS t).flatMap spanC) :: rowI (.slice ax t.ctrs.length cx) 3 1 t.ctrs.length ((curS t now).flatMap Bx.encI) :: blk b2 [v] 110 :: blk b1 [.pointer (some ⟨bk, 0, none⟩)] 107 :: (L9 ++ M)) := hS
  refine seqX ?_
  refine regionX rfl ?_
  refine salloc hS Tryz.zeroValue113 rfl ?_; clear hS; intro b3 w hS
  refine sst hS rfl rfl Tryz.sizeOf113 rfl rfl rfl rfl ?_; clear hS; intro w hS
  refine nil ?_
  show Code.wpIn _ _ _ _ _ _ _
  refine regionX rfl ?_
  refine sv (yAsg rfl) ?_
  refine nil ?_
  refine ⟨_, blk b3 (chC xc) 113 :: rowI (v) 115 9 (bl t pre).length (bxCs t.frm ((bl t pre).map Bo.mem) ms ls hs).flatten :: packI (inI ms ((bl t pre).map Bo.mem)) :: packI (inI ls ((bl t pre).map lowB)) :: packI (inI hs ((bl t pre).map highB)) :: rowI (.slice (some ⟨go, 0, none⟩) t.ticks.toNat co) 74 2 t.ticks.toNat ((baseS t now).flatMap spanC) :: blk bk [.int .i64 t.table.mean, cv, .slice ag t.gauges.length cg, .int .i64 t.wrong, .int .i64 t.frm, .int .i64 t.ticks, .slice ak t.ctrs.length ck, .slice ae t.fcs.length ce, .int .i64 t.least, .int .i64 t.most, .int .i64 t.rate, .int .i64 t.quorum, .int .i64 now, .slice aw t.ticks.toNat cw, .slice ax t.ctrs.length cx, ov'] 123 :: rowI (ov') 74 2 t.ticks.toNat ((baseS t now).flatMap spanC) :: rowI (.slice aw t.ticks.toNat cw) 74 2 t.ticks.toNat ((tidesS t).flatMap spanC) :: rowI (.slice ax t.ctrs.length cx) 3 1 t.ctrs.length ((curS t now).flatMap Bx.encI) :: blk b2 [v] 110 :: blk b1 [.pointer (some ⟨bk, 0, none⟩)] 107 :: L9, rfl, hS, ?_⟩
  clear hS hsub; clear M; intro M w hsub hS; replace hS : StX [] w0 w (blk b3 (chC xc) 113 :: rowI (v) 115 9 (bl t pre).length (bxCs t.frm ((bl t pre).map Bo.mem) ms ls hs).flatten :: packI (inI ms ((bl t pre).map Bo.mem)) :: packI (inI ls ((bl t pre).map lowB)) :: packI (inI hs ((bl t pre).map highB)) :: rowI (.slice (some ⟨go, 0, none⟩) t.ticks.toNat co) 74 2 t.ticks.toNat ((baseS t now).flatMap spanC) :: blk bk [.int .i64 t.table.mean, cv, .slice ag t.gauges.length cg, .int .i64 t.wrong, .int .i64 t.frm, .int .i64 t.ticks, .slice ak t.ctrs.length ck, .slice ae t.fcs.length ce, .int .i64 t.least, .int .i64 t.most, .int .i64 t.rate, .int .i64 t.quorum, .int .i64 now, .slice aw t.ticks.toNat cw, .slice ax t.ctrs.length cx, ov'] 123 :: rowI (ov') 74 2 t.ticks.toNat ((baseS t now).flatMap spanC) :: rowI (.slice aw t.ticks.toNat cw) 74 2 t.ticks.toNat ((tidesS t).flatMap spanC) :: rowI (.slice ax t.ctrs.length cx) 3 1 t.ctrs.length ((curS t now).flatMap Bx.encI) :: blk b2 [v] 110 :: blk b1 [.pointer (some ⟨bk, 0, none⟩)] 107 :: (L9 ++ M)) := hS
  refine blockX ?_
  refine seqX ?_
  refine regionX rfl ?_
  have hRd : RdC bk 123 [.int .i64 t.table.mean, cv, .slice ag t.gauges.length cg, .int .i64 t.wrong, .int .i64 t.frm, .int .i64 t.ticks, .slice ak t.ctrs.length ck, .slice ae t.fcs.length ce, .int .i64 t.least, .int .i64 t.most, .int .i64 t.rate, .int .i64 t.quorum, .int .i64 now, .slice aw t.ticks.toNat cw, .slice ax t.ctrs.length cx, ov'] t now aw ax (some ⟨go, 0, none⟩) cw cx co (baseS t now) w := by
   have hq := hS.sub (.cons _ (List.sublist_append_left (rowI (v) 115 9 (bl t pre).length (bxCs t.frm ((bl t pre).map Bo.mem) ms ls hs).flatten :: packI (inI ms ((bl t pre).map Bo.mem)) :: packI (inI ls ((bl t pre).map lowB)) :: packI (inI hs ((bl t pre).map highB)) :: rowI (.slice (some ⟨go, 0, none⟩) t.ticks.toNat co) 74 2 t.ticks.toNat ((baseS t now).flatMap spanC) :: blk bk [.int .i64 t.table.mean, cv, .slice ag t.gauges.length cg, .int .i64 t.wrong, .int .i64 t.frm, .int .i64 t.ticks, .slice ak t.ctrs.length ck, .slice ae t.fcs.length ce, .int .i64 t.least, .int .i64 t.most, .int .i64 t.rate, .int .i64 t.quorum, .int .i64 now, .slice aw t.ticks.toNat cw, .slice ax t.ctrs.length cx, ov'] 123 :: rowI (ov') 74 2 t.ticks.toNat ((baseS t now).flatMap spanC) :: rowI (.slice aw t.ticks.toNat cw) 74 2 t.ticks.toNat ((tidesS t).flatMap spanC) :: rowI (.slice ax t.ctrs.length cx) 3 1 t.ctrs.length ((curS t now).flatMap Bx.encI) :: blk b2 [v] 110 :: blk b1 [.pointer (some ⟨bk, 0, none⟩)] 107 :: L9) M))
   exact ⟨hq.at bk, sl_spans (hq.row (.slice aw t.ticks.toNat cw)) (tidesS_len ..) (lbd_i64 (tides_lbd hok)), sl_ints (hq.row (.slice ax t.ctrs.length cx)) (curS_len ..) (cur_i64 hok), sl_spans (hq.row (.slice (some ⟨go, 0, none⟩) t.ticks.toNat co)) (baseS_len ..) (lbd_i64 (baseS_lbd hok now))⟩
  have hxs := hTl w (fun it hit => hS.ok it (List.mem_cons_of_mem _ (List.mem_append_right (rowI (v) 115 9 (bl t pre).length (bxCs t.frm ((bl t pre).map Bo.mem) ms ls hs).flatten :: packI (inI ms ((bl t pre).map Bo.mem)) :: packI (inI ls ((bl t pre).map lowB)) :: packI (inI hs ((bl t pre).map highB)) :: rowI (.slice (some ⟨go, 0, none⟩) t.ticks.toNat co) 74 2 t.ticks.toNat ((baseS t now).flatMap spanC) :: blk bk [.int .i64 t.table.mean, cv, .slice ag t.gauges.length cg, .int .i64 t.wrong, .int .i64 t.frm, .int .i64 t.ticks, .slice ak t.ctrs.length ck, .slice ae t.fcs.length ce, .int .i64 t.least, .int .i64 t.most, .int .i64 t.rate, .int .i64 t.quorum, .int .i64 now, .slice aw t.ticks.toNat cw, .slice ax t.ctrs.length cx, ov'] 123 :: rowI (ov') 74 2 t.ticks.toNat ((baseS t now).flatMap spanC) :: rowI (.slice aw t.ticks.toNat cw) 74 2 t.ticks.toNat ((tidesS t).flatMap spanC) :: rowI (.slice ax t.ctrs.length cx) 3 1 t.ctrs.length ((curS t now).flatMap Bx.encI) :: blk b2 [v] 110 :: blk b1 [.pointer (some ⟨bk, 0, none⟩)] 107 :: L9) (hsub it hit)))) hRd
  refine sv (yMove rfl) ?_
  refine scall Tryz.call120 (.cons rfl .nil) (c_CloneS hxs hxn (by omega)) ?_
  rintro gv w hM; replace hS := hS.call1 hM; clear hM
  obtain ⟨gl, cl, rfl, -⟩ := row_some (hS.row gv) (by omega)
  refine sv (yAsg rfl) ?_
  refine nil ?_
  show Code.wpIn _ _ _ _ _ _ _
  refine seqX ?_
  refine seqX ?_
  refine regionX rfl ?_
  refine sv (yMove rfl) ?_
  refine sv (yLdB rfl Tryz.isAgg107 (hS.at _) rfl) ?_
  refine sv (yNil rfl) ?_
  refine sv (fa123_0 rfl) ?_
  refine sv (fa29_9 rfl) ?_
  refine sv (yLdB rfl Tryz.isAgg3 (hS.at _) rfl) ?_
  refine scall Tryz.call84 (.cons rfl (.cons rfl .nil)) (c_tightenN hxn hS (by omega) hxb ⟨rate_nn hok, by have := hn4.2.2.1; omega⟩) ?_
  rintro _ w ⟨rfl, q, hq, hM⟩; clear hS; have hS := hM; clear hM
  refine sv (yNot rfl) ?_
  refine nil ?_
  show Code.wpIn _ _ _ _ _ _ _
  refine condX rfl (fun c25 => ?_) (fun c25 => ?_)
  ·
   have hst : someT t.rate xs2 = false := by cases hh : someT t.rate xs2 with | false => rfl | true => rw [hh] at c25; cases c25
   refine exitX ?_
   exact ⟨_, ⟨rfl, v, ms, ls, hs, by rw [bl_no hst]; exact hl1, by rw [bl_no hst]; exact hl2, by rw [bl_no hst]; exact hl3, rfl⟩, (by rw [bl_no hst]; exact hS.sub (.cons _ (.cons _ (List.Sublist.refl _))))⟩
  ·
   have hst : someT t.rate xs2 = true := by cases hh : someT t.rate xs2 with | true => rfl | false => rw [hh] at c25; cases c25
   obtain rfl := hq hst
   have hqb : LBd 40000000 (tightS t.rate xs2) := tight_sbd (rate_nn hok) hxb
   refine skipX ?_
   show Code.wpIn _ _ _ _ _ _ _
   refine seqX ?_
   refine regionX rfl ?_
   refine sv (yMove rfl) ?_
   refine sv (yLdB rfl Tryz.isAgg107 (hS.at _) rfl) ?_
   refine sv (yNil rfl) ?_
   refine sv (fa123_0 rfl) ?_
   refine sv (fa29_3 rfl) ?_
   refine sv (yLdB rfl Tryz.isAgg3 (hS.at _) rfl) ?_
   refine scall Tryz.call121 (.cons rfl (.cons rfl .nil)) (c_endsS (sl_spans (hS.row (.slice (some ⟨gl, 0, none⟩) t.ticks.toNat cl)) ((tightS_len ..).trans hxn) (lbd_i64 hqb)) ((tightS_len ..).trans hxn) (by omega)) ?_
   rintro _ w ⟨lv, hv, rfl, hM⟩; obtain ⟨alv, clv, rfl⟩ := row_shape (hM.row lv)
   obtain ⟨ahv, chv, rfl⟩ := row_shape (hM.row hv)
   replace hS := hS.call hM; clear hM
   replace hS : StX [] w0 w (rowI (.slice alv t.ticks.toNat clv) 3 1 t.ticks.toNat ((losS (tightS t.rate xs2)).flatMap Bx.encI) :: rowI (.slice ahv t.ticks.toNat chv) 3 1 t.ticks.toNat ((hisS (tightS t.rate xs2)).flatMap Bx.encI) :: rowI (.slice (some ⟨gl, 0, none⟩) t.ticks.toNat cl) 74 2 t.ticks.toNat ((tightS t.rate xs2).flatMap spanC) :: blk b3 (chC xc) 113 :: rowI (v) 115 9 (bl t pre).length (bxCs t.frm ((bl t pre).map Bo.mem) ms ls hs).flatten :: packI (inI ms ((bl t pre).map Bo.mem)) :: packI (inI ls ((bl t pre).map lowB)) :: packI (inI hs ((bl t pre).map highB)) :: rowI (.slice (some ⟨go, 0, none⟩) t.ticks.toNat co) 74 2 t.ticks.toNat ((baseS t now).flatMap spanC) :: blk bk [.int .i64 t.table.mean, cv, .slice ag t.gauges.length cg, .int .i64 t.wrong, .int .i64 t.frm, .int .i64 t.ticks, .slice ak t.ctrs.length ck, .slice ae t.fcs.length ce, .int .i64 t.least, .int .i64 t.most, .int .i64 t.rate, .int .i64 t.quorum, .int .i64 now, .slice aw t.ticks.toNat cw, .slice ax t.ctrs.length cx, ov'] 123 :: rowI (ov') 74 2 t.ticks.toNat ((baseS t now).flatMap spanC) :: rowI (.slice aw t.ticks.toNat cw) 74 2 t.ticks.toNat ((tidesS t).flatMap spanC) :: rowI (.slice ax t.ctrs.length cx) 3 1 t.ctrs.length ((curS t now).flatMap Bx.encI) :: blk b2 [v] 110 :: blk b1 [.pointer (some ⟨bk, 0, none⟩)] 107 :: (L9 ++ M)) := hS
   refine sv (yMove rfl) ?_
   refine sv (yExt rfl rfl) ?_
   refine sv (yExt rfl rfl) ?_
   refine salloc hS Tryz.zeroValue41 rfl ?_; clear hS; intro b5 w hS
   refine salloc hS Tryz.zeroValue41 rfl ?_; clear hS; intro b6 w hS
   refine sst hS rfl rfl Tryz.sizeOf41 rfl rfl rfl rfl ?_; clear hS; intro w hS
   refine sst hS rfl rfl Tryz.sizeOf41 rfl rfl rfl rfl ?_; clear hS; intro w hS
   refine nil ?_
   show Code.wpIn _ _ _ _ _ _ _
   refine region_anyX (C := (fun w => w.heap[b2]? = some (.cells ([v] : List Value).toArray 110 (0, 0)) ∧ w.heap[b3]? = some (.cells (chC xc : List Value).toArray 113 (0, 0)) ∧ w.heap[b1]? = some (.cells ([.pointer (some ⟨bk, 0, none⟩)] : List Value).toArray 107 (0, 0)) ∧ w.heap[bk]? = some (.cells ([.int .i64 t.table.mean, cv, .slice ag t.gauges.length cg, .int .i64 t.wrong, .int .i64 t.frm, .int .i64 t.ticks, .slice ak t.ctrs.length ck, .slice ae t.fcs.length ce, .int .i64 t.least, .int .i64 t.most, .int .i64 t.rate, .int .i64 t.quorum, .int .i64 now, .slice aw t.ticks.toNat cw, .slice ax t.ctrs.length cx, ov'] : List Value).toArray 123 (0, 0)) ∧ w.heap[b5]? = some (.cells ([.int .i64 t.frm, .slice alv t.ticks.toNat clv] : List Value).toArray 41 (0, 0)) ∧ w.heap[b6]? = some (.cells ([.int .i64 t.frm, .slice ahv t.ticks.toNat chv] : List Value).toArray 41 (0, 0)))) mixed 0 15 (by kernel_rfl) rfl hS (fun w hS => ⟨hS.at b2, hS.at b3, hS.at b1, hS.at bk, hS.at b5, hS.at b6⟩) ?_
   clear hS; intro w hS
   refine hnil ?_
   refine f_step 0 (by kernel_rfl) rfl (fun _ _ _ _ h => False.elim h) ⟨hS.at b2, hS.at b3, hS.at b1, hS.at bk, hS.at b5, hS.at b6⟩ (fun w hS => (yLdB rfl Tryz.isAgg110 hS.1 rfl)) ?_
   refine f_step 1 (by kernel_rfl) rfl (fun _ _ _ _ h => False.elim h) ⟨hS.at b2, hS.at b3, hS.at b1, hS.at bk, hS.at b5, hS.at b6⟩ (fun w hS => (yLdBA rfl Tryz.isAgg113 Tryz.sizeOf113 hS.2.1 rfl rfl)) ?_
   refine f_step 2 (by kernel_rfl) rfl (fun _ _ _ _ h => False.elim h) ⟨hS.at b2, hS.at b3, hS.at b1, hS.at bk, hS.at b5, hS.at b6⟩ (fun w hS => (yLdB rfl Tryz.isAgg107 hS.2.2.1 rfl)) ?_
   refine f_step 3 (by kernel_rfl) rfl (fun _ _ _ _ h => False.elim h) ⟨hS.at b2, hS.at b3, hS.at b1, hS.at bk, hS.at b5, hS.at b6⟩ (fun w hS => (yNil rfl)) ?_
   refine f_step 4 (by kernel_rfl) rfl (fun _ _ _ _ h => False.elim h) ⟨hS.at b2, hS.at b3, hS.at b1, hS.at bk, hS.at b5, hS.at b6⟩ (fun w hS => (fa123_3 rfl)) ?_
   refine f_step 5 (by kernel_rfl) rfl (fun _ _ _ _ h => False.elim h) ⟨hS.at b2, hS.at b3, hS.at b1, hS.at bk, hS.at b5, hS.at b6⟩ (fun w hS => (yLdB rfl Tryz.isAgg39 hS.2.2.2.1 rfl)) ?_
   refine f_step 6 (by kernel_rfl) rfl (fun _ _ _ _ h => False.elim h) ⟨hS.at b2, hS.at b3, hS.at b1, hS.at bk, hS.at b5, hS.at b6⟩ (fun w hS => (yLen rfl Tryz.underlying39)) ?_
   refine f_step 7 (by kernel_rfl) rfl (fun _ _ _ _ h => False.elim h) ⟨hS.at b2, hS.at b3, hS.at b1, hS.at bk, hS.at b5, hS.at b6⟩ (fun w hS => (ySlA (j := t.ctrs.length) (m := 4) rfl rfl Tryz.runUnderlying113 Tryz.sizeOf3 (by omega))) ?_
   refine f_step 9 (by kernel_rfl) rfl (fun _ _ _ _ h => False.elim h) ⟨hS.at b2, hS.at b3, hS.at b1, hS.at bk, hS.at b5, hS.at b6⟩ (fun w hS => (yLdBA rfl Tryz.isAgg41 Tryz.sizeOf41 hS.2.2.2.2.1 rfl rfl)) ?_
   refine f_step 10 (by kernel_rfl) rfl (fun _ _ _ _ h => False.elim h) ⟨hS.at b2, hS.at b3, hS.at b1, hS.at bk, hS.at b5, hS.at b6⟩ (fun w hS => (yLdBA rfl Tryz.isAgg41 Tryz.sizeOf41 hS.2.2.2.2.2 rfl rfl)) ?_
   show wpA _ _ _ _ _ _ _ _ _ _
   refine a_step (i := 8) (is := []) (by kernel_rfl) ⟨?_, trivial⟩
   refine ⟨_, rfl, ?_⟩
   refine sappS (bytes := 8) (size := 1) (news := xc.flatMap Bx.encI) (hS.nilrow 3 1) rfl rfl Tryz.underlying39 ti3 rfl rfl rfl rfl (by decide) Tryz.sizeOf3 (fun hh => ⟨b3, 0, rfl, cho_cells (hS.at b3) hxl (by omega)⟩) (by rw [flat_len encI_len, hxl]) (ints_one _) (by omega) (by omega) ?_; clear hS; intro v44 w hS; rw [Nat.zero_add, List.nil_append] at hS
   obtain ⟨a44, c44, rfl⟩ := row_shape (hS.row v44)
   refine nil ?_
   refine ⟨fun _ => ⟨hS.at b2, hS.at b3, hS.at b1, hS.at bk, hS.at b5, hS.at b6⟩, ?_⟩
   show wpA _ _ _ _ _ _ _ _ _ _
   refine f_step 11 (by kernel_rfl) rfl (fun _ _ _ _ h => False.elim h) ⟨hS.at b2, hS.at b3, hS.at b1, hS.at bk, hS.at b5, hS.at b6⟩ (fun w hS => (yBuild Tryz.zeroValue43 rfl pl43 (.cons rfl rfl (.cons rfl rfl (.cons rfl rfl .nil))) rfl)) ?_
   refine f_step 12 (by kernel_rfl) rfl (fun _ _ _ _ h => False.elim h) ⟨hS.at b2, hS.at b3, hS.at b1, hS.at bk, hS.at b5, hS.at b6⟩ (fun w hS => (yBuild Tryz.zeroValue115 rfl pl115 (.cons rfl rfl (.cons rfl rfl .nil)) rfl)) ?_
   show wpA _ _ _ _ _ _ _ _ _ _
   refine a_step (i := 13) (is := []) (by kernel_rfl) ⟨?_, trivial⟩
   refine ⟨_, rfl, ?_⟩
   refine sbslice hS Tryz.underlying110 Tryz.sizeOf115 rfl Tryz.zeroValue115 rfl (.cons rfl rfl .nil) rfl ?_; clear hS; intro b49 w hS
   refine nil ?_
   refine ⟨fun _ => ⟨hS.at b2, hS.at b3, hS.at b1, hS.at bk, hS.at b5, hS.at b6⟩, ?_⟩
   show wpA _ _ _ _ _ _ _ _ _ _
   show wpA _ _ _ _ _ _ _ _ _ _
   refine a_step (i := 14) (is := []) (by kernel_rfl) ⟨?_, trivial⟩
   refine ⟨_, rfl, ?_⟩
   refine sapp (bytes := 120) (size := 9) (v := v) (m := 1) hS rfl rfl Tryz.underlying110 ti115 rfl rfl rfl rfl (by decide) (blk_cells (hS.at _)) rfl rfl (by omega) (by omega) ?_; clear hS; intro v50 w hS
   refine nil ?_
   refine ⟨fun _ => ⟨hS.at b2, hS.at b3, hS.at b1, hS.at bk, hS.at b5, hS.at b6⟩, ?_⟩
   show wpA _ _ _ _ _ _ _ _ _ _
   show wpA _ _ _ _ _ _ _ _ _ _
   refine a_step (i := 15) (is := []) (by kernel_rfl) ⟨?_, trivial⟩
   refine ⟨_, rfl, ?_⟩
   obtain ⟨a50, c50, rfl⟩ := row_shape (hS.row v50)
   refine sst hS rfl rfl Tryz.sizeOf110 rfl rfl rfl rfl ?_; clear hS; intro w hS
   refine nil ?_
   refine ⟨fun h => absurd h (by decide), ?_⟩
   show wpA _ _ _ _ _ _ _ _ _ _
   refine a_end (by kernel_rfl) ?_
   exact ⟨_, ⟨rfl, _, ms ++ [.slice a44 t.ctrs.length c44], ls ++ [.slice alv t.ticks.toNat clv], hs ++ [.slice ahv t.ticks.toNat chv], by rw [bl_yes hst]; simp [hl1], by rw [bl_yes hst]; simp [hl2], by rw [bl_yes hst]; simp [hl3], rfl⟩, (by rw [bl_yes hst]; exact bxEnd ⟨xc, tightS t.rate xs2⟩ hxl (by simp [lowB, losS, tightS_len, hxn]) (by simp [highB, hisS, tightS_len, hxn]) hl1 hl2 hl3 hS)⟩
 ·
  clear hS
  intro D w L xs hZ hcb hS
  obtain ⟨-, v, ms, ls, hs, hl1, hl2, hl3, rfl⟩ := hcb
  rw [bl_all hZ] at hl1 hl2 hl3 hS
  replace hS : StX [] w0 w (obj D (.deferred (some [])) :: rowI (v) 115 9 (boxS t now).length (bxCs t.frm ((boxS t now).map Bo.mem) ms ls hs).flatten :: packI (inI ms ((boxS t now).map Bo.mem)) :: packI (inI ls ((boxS t now).map lowB)) :: packI (inI hs ((boxS t now).map highB)) :: rowI (.slice (some ⟨go, 0, none⟩) t.ticks.toNat co) 74 2 t.ticks.toNat ((baseS t now).flatMap spanC) :: blk bk [.int .i64 t.table.mean, cv, .slice ag t.gauges.length cg, .int .i64 t.wrong, .int .i64 t.frm, .int .i64 t.ticks, .slice ak t.ctrs.length ck, .slice ae t.fcs.length ce, .int .i64 t.least, .int .i64 t.most, .int .i64 t.rate, .int .i64 t.quorum, .int .i64 now, .slice aw t.ticks.toNat cw, .slice ax t.ctrs.length cx, ov'] 123 :: rowI (ov') 74 2 t.ticks.toNat ((baseS t now).flatMap spanC) :: rowI (.slice aw t.ticks.toNat cw) 74 2 t.ticks.toNat ((tidesS t).flatMap spanC) :: rowI (.slice ax t.ctrs.length cx) 3 1 t.ctrs.length ((curS t now).flatMap Bx.encI) :: blk b2 [v] 110 :: blk b1 [.pointer (some ⟨bk, 0, none⟩)] 107 :: L9) := hS
  show Code.wpIn _ _ _ _ _ _ _
  refine seqX ?_
  refine regionX rfl ?_
  obtain ⟨av, cv2, rfl⟩ := row_shape (hS.row v)
  refine sv (yLdB rfl Tryz.isAgg110 (hS.at _) rfl) ?_
  refine sst hS rfl rfl Tryz.sizeOf110 rfl rfl rfl rfl ?_; clear hS; intro w hS
  refine nil ?_
  show Code.wpIn _ _ _ _ _ _ _
  refine wpIn_ret ?_
  refine leafD hS (fun w hS => (resV1 rfl (rc1 rfl Tryz.isAgg110 (hS.at b2) rfl))) (fun w hS => ?_)
  exact ⟨_, ms, ls, hs, hl1, hl2, hl3, hS.sub (.cons _ (.cons_cons _ (.cons_cons _ (.cons_cons _ (.cons_cons _ (.cons _ (.cons_cons _ (.cons_cons _ (.cons_cons _ (.cons_cons _ (.cons _ (.cons _ (List.Sublist.refl _)))))))))))))⟩
 ·
  intro D w L c pre hcb hS; exact absurd hcb.1 (by simp)
end Go.Proofs.YtgidbailiababaaGreatDoor

/- part S15 -/
namespace Go.Proofs.YtgidbailiababaaGreatDoor
open Go Bx
variable {ρ : Operand → Value} {w : World} {ty : TypeId}
theorem eqInCh {a0 b0 a1 b1 a2 b2 a3 b3 : Int} : (Op.equalIn 10000 113 (.agg #[.int .i64 a0, .int .i64 a1, .int .i64 a2, .int .i64 a3]) (.agg #[.int .i64 b0, .int .i64 b1, .int .i64 b2, .int .i64 b3])).run Tryz.prog w = .ok (decide (a0 = b0) && decide (a1 = b1) && decide (a2 = b2) && decide (a3 = b3)) w := by
  have u3 := Tryz.underlying3
  have g3 := Tryz.isAgg3
  have z3 := Tryz.sizeOf3
  rw [show (10000 : Nat) = 9999 + 1 from rfl, run_equalIn_array (P := Tryz.prog) w 9999 _ _ Tryz.underlying113 ti3]
  rw [show Tryz.prog.cellsOf 3 = 1 by kernel_rfl, show List.range 4 = [0, 1, 2, 3] from rfl]
  simp only [Op.eqItems]
  go_simp
  by_cases h0 : a0 = b0 <;> by_cases h1 : a1 = b1 <;> by_cases h2 : a2 = b2 <;> by_cases h3 : a3 = b3 <;> simp [h0, h1, h2, h3]
theorem chC_inj : ∀ {a b : List Int}, a.length = b.length → b.length ≤ 4 → ((decide (a.getD 0 0 = b.getD 0 0) && decide (a.getD 1 0 = b.getD 1 0) && decide (a.getD 2 0 = b.getD 2 0) && decide (a.getD 3 0 = b.getD 3 0)) = decide (a = b))
  | [], [], _, _ => by simp
  | [a], [b], _, _ => by simp
  | [a, a2], [b, b2], _, _ => by simp [Bool.and_assoc]
  | [a, a2, a3], [b, b2, b3], _, _ => by simp [Bool.and_assoc]
  | [a, a2, a3, a4], [b, b2, b3, b4], _, _ => by simp [Bool.and_assoc]
  | [], _ :: _, h, _ => by simp at h
  | _ :: _, [], h, _ => by simp at h
  | [_], _ :: _ :: _, h, _ => by simp at h
  | _ :: _ :: _, [_], h, _ => by simp at h
  | [_, _], _ :: _ :: _ :: _, h, _ => by simp at h
  | _ :: _ :: _ :: _, [_, _], h, _ => by simp at h
  | [_, _, _], _ :: _ :: _ :: _ :: _, h, _ => by simp at h
  | _ :: _ :: _ :: _ :: _, [_, _, _], h, _ => by simp at h
  | _, _ :: _ :: _ :: _ :: _ :: _, _, h => by simp at h
  | _ :: _ :: _ :: _ :: _ :: _, [_, _, _, _], h, _ => by simp at h
theorem neCh0 {x y : Operand} {t : TypeId} {a0 b0 a1 b1 a2 b2 a3 b3 : Int} (hx : ρ x = .agg #[.int .i64 a0, .int .i64 a1, .int .i64 a2, .int .i64 a3]) (hy : ρ y = .agg #[.int .i64 b0, .int .i64 b1, .int .i64 b2, .int .i64 b3]) : Y Tryz.prog ρ (.binOp .neq 113 x y t) ty w (.bool (!(decide (a0 = b0) && decide (a1 = b1) && decide (a2 = b2) && decide (a3 = b3)))) w := by
  have hg := run_eqGuard_agg (P := Tryz.prog) w .neq 113 x y #[.int .i64 a0, .int .i64 a1, .int .i64 a2, .int .i64 a3] #[.int .i64 b0, .int .i64 b1, .int .i64 b2, .int .i64 b3] (by kernel_rfl)
  have he := run_neq_struct (P := Tryz.prog) w 113 #[.int .i64 a0, .int .i64 a1, .int .i64 a2, .int .i64 a3] #[.int .i64 b0, .int .i64 b1, .int .i64 b2, .int .i64 b3]
  rw [eqInCh] at he
  simp only [Result.andThen_ok] at he
  simp [Y, xop, execOp, hx, hy, hg, he]
theorem neCh {x y : Operand} {t : TypeId} {a b : List Int} (hx : ρ x = .agg (chC a).toArray) (hy : ρ y = .agg (chC b).toArray) (hl : a.length = b.length) (h4 : b.length ≤ 4) : Y Tryz.prog ρ (.binOp .neq 113 x y t) ty w (.bool (decide (a ≠ b))) w :=
  Y.to (neCh0 hx hy) (by rw [chC_inj hl h4]; simp)
end Go.Proofs.YtgidbailiababaaGreatDoor
namespace Bx
open Go Go.RowKit
section
variable {w : World} {frm : Int} {B : TypeId} {v : Value} {bs : List Bo} {ms ls hs : List Value}
theorem bxCs_get : ∀ {cs : List (List Int)} {ms ls hs : List Value} {k : Nat}, k < cs.length → ms.length = cs.length → ls.length = cs.length → hs.length = cs.length → (bxCs frm cs ms ls hs)[k]? = some (bxC frm (cs.getD k []) (ms.getD k undef) (ls.getD k undef) (hs.getD k undef))
  | c :: cs, m :: ms, l :: ls, h :: hs, 0, _, _, _, _ => rfl
  | c :: cs, m :: ms, l :: ls, h :: hs, k + 1, hk, h1, h2, h3 => by
    show (bxCs frm cs ms ls hs)[k]? = _
    rw [bxCs_get (k := k) (by simpa using hk) (by simpa using h1) (by simpa using h2) (by simpa using h3)]
    rfl
  | [], _, _, _, _, hk, _, _, _ => by simp at hk
  | _ :: _, [], _, _, _, _, h, _, _ => by simp at h
  | _ :: _, _ :: _, [], _, _, _, _, h, _ => by simp at h
  | _ :: _, _ :: _, _ :: _, [], _, _, _, _, h => by simp at h
theorem bxCs_w {cs : List (List Int)} {ms ls hs : List Value} : ∀ x ∈ bxCs frm cs ms ls hs, x.length = 9 := by
  induction cs generalizing ms ls hs with
  | nil => intro x hx; cases ms <;> cases ls <;> cases hs <;> simp [bxCs] at hx
  | cons c cs ih => intro x hx; cases ms <;> cases ls <;> cases hs <;> simp only [bxCs, List.not_mem_nil, List.mem_cons] at hx; rcases hx with rfl | hx; rfl; exact ih x hx
theorem flatten_at {k : Nat} : ∀ {css : List (List Value)} {i : Nat} {cs : List Value}, (∀ x ∈ css, x.length = k) → css[i]? = some cs → ∀ j u, cs[j]? = some u → css.flatten[i * k + j]? = some u
  | c :: css, 0, cs, hw, h, j, u, hu => by
    obtain rfl : c = cs := by simpa using h
    have hj := (List.getElem?_eq_some_iff.1 hu).1
    rw [List.flatten_cons, Nat.zero_mul, Nat.zero_add, List.getElem?_append_left hj]; exact hu
  | c :: css, i + 1, cs, hw, h, j, u, hu => by
    have hc := hw c (List.mem_cons_self ..)
    rw [List.flatten_cons, List.getElem?_append_right (by rw [hc, Nat.succ_mul]; omega), show (i + 1) * k + j - c.length = i * k + j by rw [hc, Nat.succ_mul]; omega]
    exact flatten_at (fun x hx => hw x (List.mem_cons_of_mem _ hx)) (by simpa using h) j u hu
  | [], _, _, _, h, _, _, _ => by simp at h
theorem bx_cells {n cap : Nat} {a : Option Addr} (hrow : w.ownsRow 0 B 9 (.slice a n cap) n (bxCs frm (bs.map Bo.mem) ms ls hs).flatten) {k : Nat} (hk : k < bs.length) (hn : bs.length = n) (h1 : ms.length = bs.length) (h2 : ls.length = bs.length) (h3 : hs.length = bs.length) :
    ∃ g, a = some ⟨g, 0, none⟩ ∧ Cells w g (k * 9) (bxC frm (boxAt bs k).mem (ms.getD k undef) (ls.getD k undef) (hs.getD k undef)) := by
  obtain ⟨g, rfl, hc⟩ := row_get hrow (by omega)
  refine ⟨g, rfl, fun j u hu => ?_⟩
  have hg := bxCs_get (frm := frm) (cs := bs.map Bo.mem) (ms := ms) (ls := ls) (hs := hs) (k := k) (by simpa using hk) (by simpa using h1) (by simpa using h2) (by simpa using h3)
  have e : (bs.map Bo.mem).getD k [] = (boxAt bs k).mem := by
    unfold boxAt
    simp [List.getD, hk]
  rw [e] at hg
  have := hc _ _ (flatten_at bxCs_w hg j u hu)
  rwa [Nat.zero_add] at this
theorem in_sl {f : Bo → List Int} {vs : List Value} (hi : ∀ it ∈ inI vs (bs.map f), it.ok w) (hl : vs.length = bs.length) {k : Nat} (hk : k < bs.length) (hb : ∀ x ∈ f (boxAt bs k), I64 x) : Sl w 1 RInt (vs.getD k undef) (f (boxAt bs k)) := by
  have h1 : vs[k]? = some (vs.getD k undef) := by simp [List.getD, show k < vs.length by omega]
  have h2 : (bs.map f)[k]? = some (f (boxAt bs k)) := by rw [List.getElem?_map, boxAt_get hk]; rfl
  have h3 : w.ownsRow 0 3 1 (vs.getD k undef) (f (boxAt bs k)).length ((f (boxAt bs k)).flatMap encI) := hi _ (inI_get h1 h2)
  exact sl_ints h3 rfl hb
theorem bx_sl {n : Nat} (hrow : w.ownsRow 0 B 9 v n (bxCs frm (bs.map Bo.mem) ms ls hs).flatten) (hn : bs.length = n) (h1 : ms.length = bs.length) (h2 : ls.length = bs.length) (h3 : hs.length = bs.length) (hb : ∀ b ∈ bs, b.mem.length ≤ 4 ∧ (∀ x ∈ b.mem, I64 x) ∧ (∀ x ∈ lowB b, I64 x) ∧ ∀ x ∈ highB b, I64 x)
    (i1 : ∀ it ∈ inI ms (bs.map Bo.mem), it.ok w) (i2 : ∀ it ∈ inI ls (bs.map lowB), it.ok w) (i3 : ∀ it ∈ inI hs (bs.map highB), it.ok w) : Sl w 9 (RBx frm) v bs :=
  sl_of_row hrow (bxCs_rows h1 h2 h3 hb i1 i2 i3) hn
/-- The highest histories so far, in memory. -/
def keepK (all : List Bo) (k : Nat) : List Nat := (List.range k).filter fun i => !outBx all i (boxAt all i)
def posC (frm : Int) (all : List Bo) (hs : List Value) (k : Nat) : List Value := (keepK all k).flatMap fun i => [.int .i64 frm, hs.getD i undef]
theorem posK_eq (all : List Bo) (k : Nat) : posK all k = (keepK all k).map fun i => highB (boxAt all i) := rfl
theorem keepK_lt {all : List Bo} {k i : Nat} (h : i ∈ keepK all k) : i < k := List.mem_range.1 (List.mem_filter.1 h).1
theorem keepK_yes {all : List Bo} {k : Nat} (h : outBx all k (boxAt all k) = false) : keepK all (k + 1) = keepK all k ++ [k] := by
  unfold keepK
  rw [List.range_succ, List.filter_append]
  simp [h]
theorem keepK_no {all : List Bo} {k : Nat} (h : outBx all k (boxAt all k) = true) : keepK all (k + 1) = keepK all k := by
  unfold keepK
  rw [List.range_succ, List.filter_append]
  simp [h]
theorem posK_yes {all : List Bo} {k : Nat} (h : outBx all k (boxAt all k) = false) : (posK all (k + 1)).length = (posK all k).length + 1 := by rw [posK_eq, posK_eq, keepK_yes h]; simp
theorem posK_no {all : List Bo} {k : Nat} (h : outBx all k (boxAt all k) = true) : posK all (k + 1) = posK all k := by rw [posK_eq, posK_eq, keepK_no h]
theorem posC_yes {all : List Bo} {k : Nat} (h : outBx all k (boxAt all k) = false) : posC frm all hs (k + 1) = posC frm all hs k ++ [.int .i64 frm, hs.getD k undef] := by unfold posC; rw [keepK_yes h]; simp
theorem posC_no {all : List Bo} {k : Nat} (h : outBx all k (boxAt all k) = true) : posC frm all hs (k + 1) = posC frm all hs k := by unfold posC; rw [keepK_no h]
theorem posK_le {all : List Bo} {k : Nat} : (posK all k).length ≤ k := by
  rw [posK_eq, List.length_map]
  have := List.length_filter_le (fun i => !outBx all i (boxAt all i)) (List.range k)
  rwa [List.length_range] at this
theorem pos_sl {E : TypeId} {u : Value} {n : Nat} (hrow : w.ownsRow 0 E 2 u n (posC frm bs hs bs.length)) (hn : (posK bs bs.length).length = n) (hfr : I64 frm) (h3 : hs.length = bs.length) (hb : ∀ b ∈ bs, b.mem.length ≤ 4 ∧ (∀ x ∈ b.mem, I64 x) ∧ (∀ x ∈ lowB b, I64 x) ∧ ∀ x ∈ highB b, I64 x)
    (i3 : ∀ it ∈ inI hs (bs.map highB), it.ok w) : Sl w 2 RSer u ((posK bs bs.length).map (Ser.mk frm)) := by
  have key : ∀ is : List Nat, (∀ i ∈ is, i < bs.length) → Bx.Rows w 2 RSer (is.map fun i => [.int .i64 frm, hs.getD i undef]) ((is.map fun i => highB (boxAt bs i)).map (Ser.mk frm)) := by
    intro is
    induction is with
    | nil => intro _; trivial
    | cons i is ih =>
      intro h
      have hi := h i (List.mem_cons_self ..)
      refine ⟨rfl, ⟨_, rfl, hfr, in_sl i3 h3 hi (hb _ (List.mem_of_getElem? (boxAt_get hi))).2.2.2⟩, ih fun j hj => h j (List.mem_cons_of_mem _ hj)⟩
  have hflat : posC frm bs hs bs.length = ((keepK bs bs.length).map fun i => [Value.int .i64 frm, hs.getD i undef]).flatten := by unfold posC; rw [List.flatMap_def]
  rw [hflat] at hrow
  exact sl_of_row hrow (key _ fun i hi => keepK_lt hi) (by rw [List.length_map]; exact hn)
end
end Bx

