/- Merged texts, part 5. -/
import Derived.Test.YtmoilbakmlekbaaGreatDoorQ4
set_option linter.all false
/- part Aw49 -/
namespace Go.Proofs.YtmoilbakmlekbaaGreatDoor
open Go Bx
/-- barrage/basin.out -/
theorem c_bout {a lo hi : Int} {w0 : World} : CV Tryz.prog 125 #[.int .i64 a, .int .i64 lo, .int .i64 hi] w0 (.bool (outB a lo hi)) := by
  refine enter Tryz.func125 rfl Tryz.ntmps125 rfl ?_
  have hS := St.start w0
  refine seq ?_
  refine region ?_
  refine sv (yAsg rfl) ?_
  refine nil ?_
  show Code.wp _ _ _ _ _
  refine seq ?_
  refine region ?_
  refine sv (yMove rfl) ?_
  refine sv (yMove rfl) ?_
  refine sv (yLss rfl rfl) ?_
  refine sv (yMove rfl) ?_
  refine sg rfl rfl rfl (fun g => (yMove rfl)) (fun v11 g11 => ?_)
  refine sg rfl rfl rfl (fun g => (yMove rfl)) (fun v12 g12 => ?_)
  refine sg rfl rfl rfl (fun g => (yGtr (g11.1 g) (g12.1 g))) (fun v13 g13 => ?_)
  refine sv (yOr rfl rfl (fun hB => (g13.1 hB))) ?_
  refine sv (yAsg rfl) ?_
  refine nil ?_
  show Code.wp _ _ _ _ _
  refine wp_ret ?_
  exact retV (res1 rfl rfl) hS.ext
/-- barrage/basin.high -/
theorem c_high {a : Int} {w0 : World} : CV Tryz.prog 158 #[.int .i64 a] w0 (.bool (outB a (-20000) 20000)) := by
  refine enter Tryz.func158 rfl Tryz.ntmps158 rfl ?_
  have hS := St.start w0
  refine seq ?_
  refine region ?_
  refine sv (yAsg rfl) ?_
  refine nil ?_
  show Code.wp _ _ _ _ _
  refine seq ?_
  refine region ?_
  refine sv (yMove rfl) ?_
  refine scall Tryz.call125 (.cons rfl (.cons rfl (.cons rfl .nil))) c_bout ?_
  rintro _ w ⟨rfl, hE⟩; replace hS := hS.step hE; clear hE
  refine sv (yAsg rfl) ?_
  refine nil ?_
  show Code.wp _ _ _ _ _
  refine wp_ret ?_
  exact retV (res1 rfl rfl) hS.ext
set_option maxHeartbeats 4000000 in
/-- barrage/basin.Check -/
theorem c_CheckB {b : Bas} {cs : List Value} {w0 : World} (h : RBas w0 cs b) : CV Tryz.prog 141 #[.agg cs.toArray] w0 (.tuple #[.int .i64 (checkB b).1, .int .i64 (checkB b).2.1, .int .i64 (checkB b).2.2]) := by
  obtain ⟨rv, pv, rfl, hsr, hlk, hcr, hov, hsp⟩ := id h
  obtain ⟨ar, cr, rfl, hrcap, hrmx, hrel⟩ := id hsr
  obtain ⟨ap, cp, rfl, hpcap, hpmx, hpel⟩ := id hsp
  refine enter Tryz.func141 rfl Tryz.ntmps141 rfl ?_
  have hS := St.start w0
  refine seq ?_
  refine region ?_
  refine sbox hS rfl rfl ?_; clear hS; intro b1 w hS
  refine sv (yAsg rfl) ?_
  refine sv (yAsg rfl) ?_
  refine sv (yAsg rfl) ?_
  refine nil ?_
  show Code.wp _ _ _ _ _
  refine seq ?_
  refine seq ?_
  refine region ?_
  refine sv (fa85_0 rfl) ?_
  refine sv (yLdB rfl Tryz.isAgg82 (hS.at _) rfl) ?_
  refine sv (yLen rfl Tryz.underlying82) ?_
  refine scall Tryz.call125 (.cons rfl (.cons rfl (.cons rfl .nil))) c_bout ?_
  rintro _ w ⟨rfl, hE⟩; replace hS := hS.step hE; clear hE
  refine nil ?_
  show Code.wp _ _ _ _ _
  refine cond rfl (fun c17 => ?_) (fun c17 => ?_)
  ·
    refine seq ?_
    refine region ?_
    refine sv (yAsg rfl) ?_
    refine sv (yAsg rfl) ?_
    refine sv (yAsg rfl) ?_
    refine nil ?_
    show Code.wp _ _ _ _ _
    have hfin : checkB b = (1, 0, 3) := by unfold checkB; rw [if_pos c17]
    refine wp_ret (thenR ?_)
    exact retV (res3 rfl (fstI hfin) (thd1I hfin) (thd2I hfin)) hS.ext
  ·
    refine skip ?_
    show Code.wp _ _ _ _ _
    refine seq ?_
    refine seq ?_
    refine region ?_
    refine sv (fa85_0 rfl) ?_
    refine sv (yLdB rfl Tryz.isAgg82 (hS.at _) rfl) ?_
    refine sv (yLen rfl Tryz.underlying82) ?_
    refine sv (yMove rfl) ?_
    refine nil ?_
    show Code.wp _ _ _ _ _
    refine block ?_
    refine loop (fun f w zz => ∃ (k : Nat), f 1 = .pointer (some ⟨b1, 0, none⟩) ∧ f 19 = .slice ar b.rows.length cr ∧ f 20 = .int .i64 (b.rows.length : Int) ∧ f 21 = .int .i64 (k : Int) ∧ StX [] w0 w [blk b1 [.slice ar b.rows.length cr, .int .i64 b.leak, .int .i64 b.crest, .int .i64 b.over, .slice ap b.pols.length cp] 85] ∧ (k ≤ b.rows.length) ∧ (firstN (rowE b) b.rows.length 0 = firstN (rowE b) (b.rows.length - k) k) ∧ zz = b.rows.length - k) _ ⟨_, rfl, 0, rfl, rfl, rfl, rfl, hS, (Nat.zero_le _), (rfl), rfl⟩ ?_
    clear hS
    rintro f w _ ⟨k, h1, h19, h20, h21, hS, hk, hI, rfl⟩
    refine seq ?_
    refine region ?_
    refine sv (yLss h21 h20) ?_
    refine nil ?_
    show Code.wp _ _ _ _ _
    refine seq ?_
    refine cond rfl (fun c22 => ?_) (fun c22 => ?_)
    ·
      simp only [BS, ne_eq] at c22
      have hkl : k < b.rows.length := by omega
      obtain ⟨m1, hm1⟩ : ∃ m, b.rows.length - k = m + 1 := ⟨b.rows.length - k - 1, by omega⟩
      have hxq := brow_get (b := b) hkl
      obtain ⟨bx, ox, cx, hax, hlx, hcx, hRx, -⟩ := sl_at hsr hxq
      obtain ⟨rfl, hxl, hxv⟩ := hRx
      obtain ⟨by0, oy0, hay⟩ := row_if hsr k hk
      refine skip ?_
      show Code.wp _ _ _ _ _
      refine seq ?_
      refine block ?_
      refine seq ?_
      refine region ?_
      refine sv (yMove h21) ?_
      refine sv (yIxa h19 hax h21 Tryz.runUnderlying82 Tryz.sizeOf202 (by omega) (by omega)) ?_
      refine sv (yLdA rfl Tryz.isAgg202 Tryz.sizeOf202 (hcx.ext hS.ext) rfl) ?_
      refine salloc hS Tryz.zeroValue202 rfl ?_; clear hS; intro b6 w hS
      refine sv (yAsg rfl) ?_
      refine sst hS rfl rfl Tryz.sizeOf202 rfl rfl rfl rfl ?_; clear hS; intro w hS
      refine nil ?_
      show Code.wp _ _ _ _ _
      refine block ?_
      refine seq ?_
      refine region ?_
      refine sv (fa202_0 rfl) ?_
      refine sv (yLdB rfl Tryz.isAgg3 (hS.at _) rfl) ?_
      refine scall Tryz.call158 (.cons rfl .nil) c_high ?_
      rintro _ w ⟨rfl, hE⟩; replace hS := hS.step hE; clear hE
      refine sv (yMove rfl) ?_
      refine sg rfl rfl rfl (fun g => (fa202_1 rfl)) (fun v31 g31 => ?_)
      refine sg rfl rfl rfl (fun g => (yLdB (g31.1 g) Tryz.isAgg3 (hS.at _) rfl)) (fun v32 g32 => ?_)
      refine sgc hS rfl rfl rfl Tryz.call125 (fun g => (.cons (g32.1 g) (.cons rfl (.cons rfl .nil)))) (fun g => c_bout) ?_; clear hS; intro v33 w hS g33
      refine sv (yOr rfl rfl (fun hB => (g33.1 hB))) ?_
      refine sv (yAsg rfl) ?_
      refine nil ?_
      show Code.wp _ _ _ _ _
      refine cond rfl (fun c26 => ?_) (fun c26 => ?_)
      ·
        refine seq ?_
        refine region ?_
        refine sv (yMove rfl) ?_
        refine sv (yAsg rfl) ?_
        refine sv (yAsg rfl) ?_
        refine sv (yAsg rfl) ?_
        refine nil ?_
        show Code.wp _ _ _ _ _
        have hfin : checkB b = (1, (k : Int), 7) := by unfold checkB; rw [if_neg (by rw [c17]; decide), if_pos (by rw [hI, hm1, firstN_hit (by rw [rowE_7 c26]; decide), rowE_7 c26]; show (7 : Int) ≠ 0; decide), hI, hm1, firstN_hit (by rw [rowE_7 c26]; decide), rowE_7 c26]
        refine wp_ret (blockR (blockR (thenR (thenR (blockR (thenR ?_))))))
        exact retV (res3 rfl (fstI hfin) (thd1I hfin) (thd2I hfin)) hS.ext
      ·
        refine seq ?_
        refine region_draw mixed (by kernel_rfl) hS ?_
        refine qv (fun w hS => (yMove rfl)) ?_
        refine qv (fun w hS => (yGtr rfl rfl)) ?_
        refine qv (fun w hS => (yMove rfl)) ?_
        refine qg rfl rfl rfl (fun g w hS => (fa202_0 rfl)) (fun v40 g40 => ?_)
        refine qg rfl rfl rfl (fun g w hS => (yLdB (g40.1 g) Tryz.isAgg3 (hS.at _) rfl)) (fun v41 g41 => ?_)
        refine qg rfl rfl rfl (fun g w hS => (fa85_0 h1)) (fun v42 g42 => ?_)
        refine qg rfl rfl rfl (fun g w hS => (yLdB (g42.1 g) Tryz.isAgg82 (hS.at _) rfl)) (fun v43 g43 => ?_)
        refine qg rfl rfl rfl (fun g w hS => (yMove rfl)) (fun v44 g44 => ?_)
        refine qg rfl rfl rfl (fun g w hS => (ySub (g44.1 g) rfl ⟨by omega, by omega⟩)) (fun v45 g45 => ?_)
        refine qg rfl rfl rfl (fun g w hS => (yIxa (g43.1 g) (hay (of_decide_eq_true g)).1 (g45.1 g) Tryz.runUnderlying82 Tryz.sizeOf202 (by have := (of_decide_eq_true g); omega) (by have := (of_decide_eq_true g); omega))) (fun v46 g46 => ?_)
        refine qg rfl rfl rfl (fun g w hS => (fa202_0 (g46.1 g))) (fun v47 g47 => ?_)
        refine qg rfl rfl rfl (fun g w hS => (yLd (g47.1 g) Tryz.isAgg3 (((hay (of_decide_eq_true g)).2.ext hS.ext).at (j := 0) rfl))) (fun v48 g48 => ?_)
        refine qg rfl rfl rfl (fun g w hS => (yLeq (g41.1 g) (g48.1 g))) (fun v49 g49 => ?_)
        refine qg rfl rfl rfl (fun g w hS => (yMove (g49.1 g))) (fun v50 g50 => ?_)
        refine qgg rfl rfl g50 (fun g w hS => (fa202_1 rfl)) (fun v51 g51 => ?_)
        refine qgg rfl rfl g50 (fun g w hS => (yLdB (g51.1 g) Tryz.isAgg3 (hS.at _) rfl)) (fun v52 g52 => ?_)
        refine qgg rfl rfl g50 (fun g w hS => (fa85_0 h1)) (fun v53 g53 => ?_)
        refine qgg rfl rfl g50 (fun g w hS => (yLdB (g53.1 g) Tryz.isAgg82 (hS.at _) rfl)) (fun v54 g54 => ?_)
        refine qgg rfl rfl g50 (fun g w hS => (yMove rfl)) (fun v55 g55 => ?_)
        refine qgg rfl rfl g50 (fun g w hS => (ySub (g55.1 g) rfl ⟨by omega, by omega⟩)) (fun v56 g56 => ?_)
        refine qgg rfl rfl g50 (fun g w hS => (yIxa (g54.1 g) (hay (of_decide_eq_true g.1)).1 (g56.1 g) Tryz.runUnderlying82 Tryz.sizeOf202 (by have := (of_decide_eq_true g.1); omega) (by have := (of_decide_eq_true g.1); omega))) (fun v57 g57 => ?_)
        refine qgg rfl rfl g50 (fun g w hS => (fa202_1 (g57.1 g))) (fun v58 g58 => ?_)
        refine qgg rfl rfl g50 (fun g w hS => (yLd (g58.1 g) Tryz.isAgg3 (((hay (of_decide_eq_true g.1)).2.ext hS.ext).at (j := 1) rfl))) (fun v59 g59 => ?_)
        refine qgg rfl rfl g50 (fun g w hS => (yLeq (g52.1 g) (g59.1 g))) (fun v60 g60 => ?_)
        refine qg rfl rfl rfl (fun g w hS => (yOr (g50.1 g) rfl (fun hB => (g60.1 ⟨g, hB⟩)))) (fun v61 g61 => ?_)
        refine qv (fun w hS => (yAnd rfl (fun hB => (g61.1 hB)) rfl)) ?_
        refine qv (fun w hS => (yAsg rfl)) ?_
        clear hS; refine qnil (fun w hS => ?_)
        show Code.wp _ _ _ _ _
        refine cond rfl (fun c36 => ?_) (fun c36 => ?_)
        ·
          simp only [BS, ne_eq] at c36
          refine seq ?_
          refine region ?_
          refine sv (yMove rfl) ?_
          refine sv (yAsg rfl) ?_
          refine sv (yAsg rfl) ?_
          refine sv (yAsg rfl) ?_
          refine nil ?_
          show Code.wp _ _ _ _ _
          have hfin : checkB b = (1, (k : Int), 2) := by unfold checkB; rw [if_neg (by rw [c17]; decide), if_pos (by rw [hI, hm1, firstN_hit (by rw [rowE_2 c26 c36]; decide), rowE_2 c26 c36]; show (2 : Int) ≠ 0; decide), hI, hm1, firstN_hit (by rw [rowE_2 c26 c36]; decide), rowE_2 c26 c36]
          refine wp_ret (blockR (blockR (thenR (thenR (blockR (thenR ?_))))))
          exact retV (res3 rfl (fstI hfin) (thd1I hfin) (thd2I hfin)) hS.ext
        ·
          simp only [BS, ne_eq] at c36
          refine skip ?_
          show Code.wp _ _ _ _ _
          refine region ?_
          refine sv (yAdd h21 rfl ⟨by omega, by omega⟩) ?_
          refine sv (yMove rfl) ?_
          refine nil ?_
          exact ⟨_, _, rfl, ⟨k + 1, h1, h19, h20, rfl, (hS.sub (.cons _ (List.Sublist.refl _))), (by omega), (by rw [hI, hm1, firstN_step (rowE_0 c26 c36), show m1 = b.rows.length - (k + 1) by omega]), rfl⟩, by omega⟩
    ·
      simp only [BS, ne_eq] at c22
      obtain rfl : k = b.rows.length := by omega
      have he1 : (firstN (rowE b) b.rows.length 0).2 = 0 := by rw [hI, Nat.sub_self]; rfl
      have hRW : ∀ i, i < b.rows.length → rowE b i = 0 := fun i hi => firstN_ok he1 i (Nat.zero_le _) (by omega)
      refine exit ?_
      show Code.wp _ _ _ _ _
      refine seq ?_
      refine block ?_
      refine seq ?_
      refine region ?_
      refine sv (fa85_1 h1) ?_
      refine sv (yLdB rfl Tryz.isAgg3 (hS.at _) rfl) ?_
      refine scall Tryz.call125 (.cons rfl (.cons rfl (.cons rfl .nil))) c_bout ?_
      rintro _ w ⟨rfl, hE⟩; replace hS := hS.step hE; clear hE
      refine sv (yMove rfl) ?_
      refine sg rfl rfl rfl (fun g => (fa85_3 h1)) (fun v70 g70 => ?_)
      refine sg rfl rfl rfl (fun g => (yLdB (g70.1 g) Tryz.isAgg3 (hS.at _) rfl)) (fun v71 g71 => ?_)
      refine sgc hS rfl rfl rfl Tryz.call125 (fun g => (.cons (g71.1 g) (.cons rfl (.cons rfl .nil)))) (fun g => c_bout) ?_; clear hS; intro v72 w hS g72
      refine sv (yOr rfl rfl (fun hB => (g72.1 hB))) ?_
      refine sv (yMove rfl) ?_
      refine sg rfl rfl rfl (fun g => (fa85_2 h1)) (fun v75 g75 => ?_)
      refine sg rfl rfl rfl (fun g => (yLdB (g75.1 g) Tryz.isAgg3 (hS.at _) rfl)) (fun v76 g76 => ?_)
      refine sgc hS rfl rfl rfl Tryz.call158 (fun g => (.cons (g76.1 g) .nil)) (fun g => c_high) ?_; clear hS; intro v77 w hS g77
      refine sv (yOr rfl rfl (fun hB => (g77.1 hB))) ?_
      refine sv (yAsg rfl) ?_
      refine nil ?_
      show Code.wp _ _ _ _ _
      refine cond rfl (fun c65 => ?_) (fun c65 => ?_)
      ·
        refine seq ?_
        refine region ?_
        refine sv (yAsg rfl) ?_
        refine sv (yAsg rfl) ?_
        refine sv (yAsg rfl) ?_
        refine nil ?_
        show Code.wp _ _ _ _ _
        have hfin : checkB b = (2, 0, 7) := by unfold checkB; rw [if_neg (by rw [c17]; decide), if_neg (fun h => h he1), if_pos c65]
        refine wp_ret (blockR (thenR ?_))
        exact retV (res3 rfl (fstI hfin) (thd1I hfin) (thd2I hfin)) hS.ext
      ·
        refine seq ?_
        refine region ?_
        refine sv (fa85_4 h1) ?_
        refine sv (yLdB rfl Tryz.isAgg83 (hS.at _) rfl) ?_
        refine sv (yLen rfl Tryz.underlying83) ?_
        refine sv (yGtr rfl rfl) ?_
        refine sv (yAsg rfl) ?_
        refine nil ?_
        show Code.wp _ _ _ _ _
        refine cond rfl (fun c79 => ?_) (fun c79 => ?_)
        ·
          simp only [BS, ne_eq] at c79
          refine seq ?_
          refine region ?_
          refine sv (yAsg rfl) ?_
          refine sv (yAsg rfl) ?_
          refine sv (yAsg rfl) ?_
          refine nil ?_
          show Code.wp _ _ _ _ _
          have hfin : checkB b = (3, 0, 3) := by unfold checkB; rw [if_neg (by rw [c17]; decide), if_neg (fun h => h he1), if_neg (by rw [c65]; decide), if_pos c79]
          refine wp_ret (blockR (thenR ?_))
          exact retV (res3 rfl (fstI hfin) (thd1I hfin) (thd2I hfin)) hS.ext
        ·
          simp only [BS, ne_eq] at c79
          have hrl2 : 2 ≤ b.rows.length := by simp only [outB_false] at c17; omega
          obtain ⟨br0, or0, cr0, har0, hlr0, hcr0, hRr0, -⟩ := sl_at hsr (brow_get (b := b) (show 0 < b.rows.length by simp only [outB_false] at c17; omega))
          obtain ⟨rfl, hr01, hr02⟩ := hRr0
          refine skip ?_
          show Code.wp _ _ _ _ _
          refine seq ?_
          refine region ?_
          refine smkmap Value.string hS ?_; clear hS; intro b84 w hS
          refine sv (yAsg rfl) ?_
          refine nil ?_
          show Code.wp _ _ _ _ _
          refine seq ?_
          refine region ?_
          refine sv (fa85_1 h1) ?_
          refine sv (yLdB rfl Tryz.isAgg3 (hS.at _) rfl) ?_
          refine sv (yAsg rfl) ?_
          refine nil ?_
          show Code.wp _ _ _ _ _
          refine seq ?_
          refine seq ?_
          refine region ?_
          refine sv (fa85_4 h1) ?_
          refine sv (yLdB rfl Tryz.isAgg83 (hS.at _) rfl) ?_
          refine sv (yLen rfl Tryz.underlying83) ?_
          refine sv (yMove rfl) ?_
          refine nil ?_
          show Code.wp _ _ _ _ _
          refine block ?_
          refine loop (fun f w zz => ∃ (k : Nat), f 1 = .pointer (some ⟨b1, 0, none⟩) ∧ f 7 = .map (some b84) ∧ f 8 = .int .i64 (greatB b (b.pols.take k)) ∧ f 88 = .slice ap b.pols.length cp ∧ f 89 = .int .i64 (b.pols.length : Int) ∧ f 90 = .int .i64 (k : Int) ∧ StX [] w0 w [mapI b84 Value.string (seenM ((b.pols.take k).map (·.name))), blk b1 [.slice ar b.rows.length cr, .int .i64 b.leak, .int .i64 b.crest, .int .i64 b.over, .slice ap b.pols.length cp] 85] ∧ (k ≤ b.pols.length) ∧ (namedR (·.name) (bpolE b) b.pols [] 0 = namedR (·.name) (bpolE b) (b.pols.drop k) ((b.pols.take k).map (·.name)) k) ∧ zz = b.pols.length - k) _ ⟨_, rfl, 0, h1, rfl, rfl, rfl, rfl, rfl, hS, (Nat.zero_le _), (rfl), rfl⟩ ?_
          clear hS
          rintro f w _ ⟨k, h1, h7, h8, h88, h89, h90, hS, hk, hI, rfl⟩
          refine seq ?_
          refine region ?_
          refine sv (yLss h90 h89) ?_
          refine nil ?_
          show Code.wp _ _ _ _ _
          refine seq ?_
          refine cond rfl (fun c91 => ?_) (fun c91 => ?_)
          ·
            simp only [BS, ne_eq] at c91
            refine skip ?_
            show Code.wp _ _ _ _ _
            refine seq ?_
            refine block ?_
            refine seq ?_
            refine region ?_
            obtain ⟨x, hxq, hdq⟩ := drop_of (l := b.pols) (k := k) (by omega)
            obtain ⟨bq, oq, csq, haq, hlenq, hcsq, hRq⟩ := hpel (k) (by omega)
            obtain rfl : x = b.pols[k] := (List.getElem?_eq_some_iff.1 hxq).2.symm
            generalize b.pols[k] = x at hxq hdq hRq
            obtain ⟨rfl, hnm, hx1, hx2, hx3⟩ := hRq
            refine sv (yMove h90) ?_
            refine sv (yIxa h88 haq h90 Tryz.runUnderlying83 Tryz.sizeOf204 (by omega) (by omega)) ?_
            refine sv (yLdA rfl Tryz.isAgg204 Tryz.sizeOf204 (hcsq.ext hS.ext) rfl) ?_
            refine salloc hS Tryz.zeroValue204 rfl ?_; clear hS; intro b10 w hS
            refine sv (yAsg rfl) ?_
            refine sst hS rfl rfl Tryz.sizeOf204 rfl rfl rfl rfl ?_; clear hS; intro w hS
            refine nil ?_
            show Code.wp _ _ _ _ _
            refine seq ?_
            refine block ?_
            refine seq ?_
            refine region ?_
            refine sv (fa204_0 rfl) ?_
            refine sv (yLdB rfl Tryz.isAgg9 (hS.at _) rfl) ?_
            refine scall Tryz.call106 (.cons rfl .nil) (c_Name hnm) ?_
            rintro _ w ⟨rfl, hE⟩; replace hS := hS.step hE; clear hE
            refine sv (yNot rfl) ?_
            refine sv (yAsg rfl) ?_
            refine nil ?_
            show Code.wp _ _ _ _ _
            refine cond rfl (fun c95 => ?_) (fun c95 => ?_)
            ·
              refine seq ?_
              refine region ?_
              refine sv (yMove rfl) ?_
              refine sv (yAsg rfl) ?_
              refine sv (yAsg rfl) ?_
              refine sv (yAsg rfl) ?_
              refine nil ?_
              show Code.wp _ _ _ _ _
              have hfin : checkB b = (3, (k : Int), 6) := by unfold checkB; rw [if_neg (by rw [c17]; decide), if_neg (fun h => h he1), if_neg (by rw [c65]; decide), if_neg c79, if_pos (by rw [hI, hdq, namedR, if_pos c95]; show (6 : Int) ≠ 0; decide), hI, hdq, namedR, if_pos c95]
              refine wp_ret (blockR (thenR (blockR (thenR (thenR (blockR (thenR ?_)))))))
              exact retV (res3 rfl (fstI hfin) (thd1I hfin) (thd2I hfin)) hS.ext
            ·
              refine seq ?_
              refine region ?_
              refine sv (yMove h7) ?_
              refine sv (fa204_0 rfl) ?_
              refine sv (yLdB rfl Tryz.isAgg9 (hS.at _) rfl) ?_
              refine sv (yLook Value.string rfl rfl Tryz.runUnderlying255 (keyStr Tryz.underlying9) Tryz.zeroValue4 (hS.is _) (getM_seen _ _)) ?_
              refine sv (yAsg rfl) ?_
              refine nil ?_
              show Code.wp _ _ _ _ _
              refine cond rfl (fun c101 => ?_) (fun c101 => ?_)
              ·
                refine seq ?_
                refine region ?_
                refine sv (yMove rfl) ?_
                refine sv (yAsg rfl) ?_
                refine sv (yAsg rfl) ?_
                refine sv (yAsg rfl) ?_
                refine nil ?_
                show Code.wp _ _ _ _ _
                have hfin : checkB b = (3, (k : Int), 5) := by unfold checkB; rw [if_neg (by rw [c17]; decide), if_neg (fun h => h he1), if_neg (by rw [c65]; decide), if_neg c79, if_pos (by rw [hI, hdq, namedR, if_neg (by rw [c95]; decide), if_pos c101]; show (5 : Int) ≠ 0; decide), hI, hdq, namedR, if_neg (by rw [c95]; decide), if_pos c101]
                refine wp_ret (blockR (thenR (blockR (thenR (thenR (blockR (thenR ?_)))))))
                exact retV (res3 rfl (fstI hfin) (thd1I hfin) (thd2I hfin)) hS.ext
              ·
                refine seq ?_
                refine region_draw mixed (by kernel_rfl) hS ?_
                refine qv (fun w hS => (fa204_1 rfl)) ?_
                refine qv (fun w hS => (yLdB rfl Tryz.isAgg3 (hS.at _) rfl)) ?_
                refine qv (fun w hS => (fa85_0 h1)) ?_
                refine qv (fun w hS => (yLdB rfl Tryz.isAgg82 (hS.at _) rfl)) ?_
                refine qv (fun w hS => (yIxa rfl har0 rfl Tryz.runUnderlying82 Tryz.sizeOf202 (by omega) (by omega))) ?_
                refine qv (fun w hS => (fa202_0 rfl)) ?_
                refine qv (fun w hS => (yLd rfl Tryz.isAgg3 ((hcr0.ext hS.ext).at (j := 0) rfl))) ?_
                refine qcall Tryz.call125 (.cons rfl (.cons rfl (.cons rfl .nil))) (fun w hS => c_bout) ?_
                refine qv (fun w hS => (yMove rfl)) ?_
                refine qg rfl rfl rfl (fun g w hS => (fa204_2 rfl)) (fun v117 g117 => ?_)
                refine qg rfl rfl rfl (fun g w hS => (yLdB (g117.1 g) Tryz.isAgg3 (hS.at _) rfl)) (fun v118 g118 => ?_)
                refine qgc rfl rfl rfl Tryz.call125 (fun g => (.cons (g118.1 g) (.cons rfl (.cons rfl .nil)))) (fun g w hS => c_bout) (fun v119 g119 => ?_)
                refine qv (fun w hS => (yOr rfl rfl (fun hB => (g119.1 hB)))) ?_
                refine qv (fun w hS => (yMove rfl)) ?_
                refine qg rfl rfl rfl (fun g w hS => (fa204_3 rfl)) (fun v122 g122 => ?_)
                refine qg rfl rfl rfl (fun g w hS => (yLdB (g122.1 g) Tryz.isAgg3 (hS.at _) rfl)) (fun v123 g123 => ?_)
                refine qgc rfl rfl rfl Tryz.call125 (fun g => (.cons (g123.1 g) (.cons rfl (.cons rfl .nil)))) (fun g w hS => c_bout) (fun v124 g124 => ?_)
                refine qv (fun w hS => (yOr rfl rfl (fun hB => (g124.1 hB)))) ?_
                refine qv (fun w hS => (yAsg rfl)) ?_
                clear hS; refine qnil (fun w hS => ?_)
                show Code.wp _ _ _ _ _
                refine cond rfl (fun c107 => ?_) (fun c107 => ?_)
                ·
                  refine seq ?_
                  refine region ?_
                  refine sv (yMove rfl) ?_
                  refine sv (yAsg rfl) ?_
                  refine sv (yAsg rfl) ?_
                  refine sv (yAsg rfl) ?_
                  refine nil ?_
                  show Code.wp _ _ _ _ _
                  have hfin : checkB b = (3, (k : Int), 7) := by unfold checkB; rw [if_neg (by rw [c17]; decide), if_neg (fun h => h he1), if_neg (by rw [c65]; decide), if_neg c79, if_pos (by rw [hI, hdq, namedR, if_neg (by rw [c95]; decide), if_neg (by rw [c101]; decide), if_pos (by rw [bpolE_7 c107]; decide), bpolE_7 c107]; show (7 : Int) ≠ 0; decide), hI, hdq, namedR, if_neg (by rw [c95]; decide), if_neg (by rw [c101]; decide), if_pos (by rw [bpolE_7 c107]; decide), bpolE_7 c107]
                  refine wp_ret (blockR (thenR (blockR (thenR (thenR (blockR (thenR ?_)))))))
                  exact retV (res3 rfl (fstI hfin) (thd1I hfin) (thd2I hfin)) hS.ext
                ·
                  refine skip ?_
                  show Code.wp _ _ _ _ _
                  refine seq ?_
                  refine region ?_
                  refine sv (yMove h7) ?_
                  refine sv (fa204_0 rfl) ?_
                  refine sv (yLdB rfl Tryz.isAgg9 (hS.at _) rfl) ?_
                  refine smapset Value.string hS rfl rfl rfl Tryz.runUnderlying255 (keyStr Tryz.underlying9) ?_; clear hS; intro w hS
                  refine nil ?_
                  show Code.wp _ _ _ _ _
                  refine region ?_
                  refine sv (yMove h8) ?_
                  refine sv (fa204_2 rfl) ?_
                  refine sv (yLdB rfl Tryz.isAgg3 (hS.at _) rfl) ?_
                  refine sv (yMax rfl rfl) ?_
                  refine sv (yAsg rfl) ?_
                  refine nil ?_
                  show Code.wp _ _ _ _ _
                  refine region ?_
                  refine sv (yAdd h90 rfl ⟨by omega, by omega⟩) ?_
                  refine sv (yMove rfl) ?_
                  refine nil ?_
                  exact ⟨_, _, rfl, ⟨k + 1, h1, h7, (rfl.trans (congrArg (Value.int .i64) (great_snoc hxq))), h88, h89, rfl, (by rw [namedR_take hxq, ← setM_seen _ _ (fun h => by rw [memB_iff.2 h] at c101; cases c101)]; exact hS.sub (.cons _ (List.Sublist.refl _))), (by omega), (by rw [hI, hdq, namedR, if_neg (by rw [c95]; decide), if_neg (by rw [c101]; decide), if_neg (fun h => h (bpolE_0 c107)), namedR_take hxq]; rfl), rfl⟩, by omega⟩
          ·
            simp only [BS, ne_eq] at c91
            obtain rfl : k = b.pols.length := by omega
            rw [List.take_length] at hS
            have he2 : (namedR (·.name) (bpolE b) b.pols [] 0).2 = 0 := by rw [hI, List.drop_length]; rfl
            obtain ⟨hgr0, hgr1⟩ := great_bd c65 (namedR_ok _ _ _ he2).1
            have hgq : greatB b (b.pols.take b.pols.length) = greatB b b.pols := by rw [List.take_length]
            refine exit ?_
            show Code.wp _ _ _ _ _
            refine seq ?_
            refine seq ?_
            refine region ?_
            refine sv (fa85_0 h1) ?_
            refine sv (yLdB rfl Tryz.isAgg82 (hS.at _) rfl) ?_
            refine sv (yFromA (i := 1) rfl rfl Tryz.underlying82 Tryz.sizeOf202 (by simp only [outB_false] at c17; omega)) ?_
            refine sv (yLen rfl Tryz.underlying82) ?_
            refine sv (yMove rfl) ?_
            refine nil ?_
            show Code.wp _ _ _ _ _
            refine block ?_
            refine loop (fun f w zz => ∃ (k : Nat), f 1 = .pointer (some ⟨b1, 0, none⟩) ∧ f 8 = .int .i64 (greatB b b.pols) ∧ f 137 = .slice (fromA ar cr 1 2) (b.rows.length - 1) (cr - 1) ∧ f 138 = .int .i64 ((b.rows.length - 1 : Nat) : Int) ∧ f 139 = .int .i64 (k : Int) ∧ StX [] w0 w [blk b1 [.slice ar b.rows.length cr, .int .i64 b.leak, .int .i64 b.crest, .int .i64 b.over, .slice ap b.pols.length cp] 85] ∧ (k ≤ b.rows.length - 1) ∧ (∀ i, i < k → greatB b b.pols * (lvB b (i + 1) - lvB b i) ≤ vlB b (i + 1) - vlB b i) ∧ zz = b.rows.length - 1 - k) _ ⟨_, rfl, 0, h1, (h8.trans (congrArg (Value.int .i64) hgq)), rfl, rfl, rfl, (hS.sub (.cons _ (List.Sublist.refl _))), (Nat.zero_le _), (fun i hi => absurd hi (Nat.not_lt_zero i)), rfl⟩ ?_
            clear hS
            rintro f w _ ⟨k, h1, h8, h137, h138, h139, hS, hk, hW, rfl⟩
            refine seq ?_
            refine region ?_
            refine sv (yLss h139 h138) ?_
            refine nil ?_
            show Code.wp _ _ _ _ _
            refine seq ?_
            refine cond rfl (fun c140 => ?_) (fun c140 => ?_)
            ·
              simp only [BS, ne_eq] at c140
              have hkl : k + 1 < b.rows.length := by omega
              obtain ⟨bx, ox, cx, hax, hlx, hcx, hRx, -⟩ := sl_at hsr (brow_get (b := b) (show k < b.rows.length by omega))
              obtain ⟨rfl, hxl, hxv⟩ := hRx
              obtain ⟨bz, oz, cz, haz, hlz, hcz, hRz, -⟩ := sl_at (hsr.drop (i := 1) (by omega)) (i := k) (x := brow b (k + 1)) (by rw [List.getElem?_drop, Nat.add_comm]; exact brow_get hkl)
              obtain ⟨rfl, hzl, hzv⟩ := hRz
              have hr1 := rowE_ok (hRW k (by omega))
              obtain ⟨hr2, hr3⟩ := rowE_ok (hRW (k + 1) hkl)
              replace hr3 := hr3 (by omega)
              rw [Nat.add_sub_cancel] at hr3
              have hmb := great_mul hgr0 hgr1 hr1.1 hr2 hr3
              unfold lvB vlB at hr1 hr2 hr3; unfold lvB at hmb
              refine skip ?_
              show Code.wp _ _ _ _ _
              refine seq ?_
              refine block ?_
              refine seq ?_
              refine region ?_
              refine sv (yMove h139) ?_
              refine sv (yIxa h137 haz h139 Tryz.runUnderlying82 Tryz.sizeOf202 (by omega) (by omega)) ?_
              refine sv (yLdA rfl Tryz.isAgg202 Tryz.sizeOf202 (hcz.ext hS.ext) rfl) ?_
              refine salloc hS Tryz.zeroValue202 rfl ?_; clear hS; intro b12 w hS
              refine sv (yAsg rfl) ?_
              refine sst hS rfl rfl Tryz.sizeOf202 rfl rfl rfl rfl ?_; clear hS; intro w hS
              refine nil ?_
              show Code.wp _ _ _ _ _
              refine seq ?_
              refine region ?_
              refine sv (fa85_0 h1) ?_
              refine sv (yLdB rfl Tryz.isAgg82 (hS.at _) rfl) ?_
              refine sv (yMove rfl) ?_
              refine sv (yIxa rfl hax rfl Tryz.runUnderlying82 Tryz.sizeOf202 (by omega) (by omega)) ?_
              refine sv (yLdA rfl Tryz.isAgg202 Tryz.sizeOf202 (hcx.ext hS.ext) rfl) ?_
              refine salloc hS Tryz.zeroValue202 rfl ?_; clear hS; intro b13 w hS
              refine sst hS rfl rfl Tryz.sizeOf202 rfl rfl rfl rfl ?_; clear hS; intro w hS
              refine nil ?_
              show Code.wp _ _ _ _ _
              refine seq ?_
              refine region ?_
              refine sv (yMove h8) ?_
              refine sv (fa202_0 rfl) ?_
              refine sv (yLdB rfl Tryz.isAgg3 (hS.at _) rfl) ?_
              refine sv (fa202_0 rfl) ?_
              refine sv (yLdB rfl Tryz.isAgg3 (hS.at _) rfl) ?_
              refine sv (ySub rfl rfl ⟨by omega, by omega⟩) ?_
              refine sv (yMul rfl rfl ⟨by omega, by omega⟩) ?_
              refine sv (fa202_1 rfl) ?_
              refine sv (yLdB rfl Tryz.isAgg3 (hS.at _) rfl) ?_
              refine sv (fa202_1 rfl) ?_
              refine sv (yLdB rfl Tryz.isAgg3 (hS.at _) rfl) ?_
              refine sv (ySub rfl rfl ⟨by omega, by omega⟩) ?_
              refine sv (yGtr rfl rfl) ?_
              refine nil ?_
              show Code.wp _ _ _ _ _
              refine cond rfl (fun c161 => ?_) (fun c161 => ?_)
              ·
                simp only [BS, ne_eq] at c161
                refine seq ?_
                refine region ?_
                refine sv (yAsg rfl) ?_
                refine sv (yAsg rfl) ?_
                refine sv (yAsg rfl) ?_
                refine nil ?_
                show Code.wp _ _ _ _ _
                have hfin : checkB b = (4, 0, 2) := by unfold checkB; rw [if_neg (by rw [c17]; decide), if_neg (fun h => h he1), if_neg (by rw [c65]; decide), if_neg c79, if_neg (fun h => h he2), if_pos (fun hw => by have := hw k (by omega); unfold lvB vlB at this; omega)]
                refine wp_ret (blockR (thenR (thenR (blockR (thenR ?_)))))
                exact retV (res3 rfl (fstI hfin) (thd1I hfin) (thd2I hfin)) hS.ext
              ·
                simp only [BS, ne_eq] at c161
                refine skip ?_
                show Code.wp _ _ _ _ _
                refine region ?_
                refine sv (yAdd h139 rfl ⟨by omega, by omega⟩) ?_
                refine sv (yMove rfl) ?_
                refine nil ?_
                exact ⟨_, _, rfl, ⟨k + 1, h1, h8, h137, h138, rfl, (hS.sub (.cons _ (.cons _ (List.Sublist.refl _)))), (by omega), (snoc hW (by unfold lvB vlB; omega)), rfl⟩, by omega⟩
            ·
              simp only [BS, ne_eq] at c140
              refine exit ?_
              show Code.wp _ _ _ _ _
              refine seq ?_
              refine region ?_
              refine sv (yAsg rfl) ?_
              refine sv (yAsg rfl) ?_
              refine sv (yAsg rfl) ?_
              refine nil ?_
              show Code.wp _ _ _ _ _
              have hfin : checkB b = (0, 0, 0) := by unfold checkB; rw [if_neg (by rw [c17]; decide), if_neg (fun h => h he1), if_neg (by rw [c65]; decide), if_neg c79, if_neg (fun h => h he2), if_neg (fun hn => hn (fun i hi => hW i (by omega)))]
              refine wp_ret ?_
              exact retV (res3 rfl (fstI hfin) (thd1I hfin) (thd2I hfin)) hS.ext
end Go.Proofs.YtmoilbakmlekbaaGreatDoor

/- part A37 -/
namespace Bx
open Go Go.RowKit
def flB (l : List Int) (i : Nat) : Int := l.getD i 0
theorem flB_get {l : List Int} {i : Nat} (h : i < l.length) : l[i]? = some (flB l i) := by simp [flB, List.getD, h]
def plB (b : Bas) (i : Nat) : Pol := b.pols.getD i ⟨⟨#[]⟩, 0, 0, 0⟩
theorem plB_get {b : Bas} {i : Nat} (h : i < b.pols.length) : b.pols[i]? = some (plB b i) := by simp [plB, List.getD, h]
theorem plB_ok {b : Bas} (h : BasOk b) {i : Nat} (hi : i < b.pols.length) : (lvB b 0 ≤ (plB b i).sill ∧ (plB b i).sill ≤ 20000) ∧ (0 ≤ (plB b i).take ∧ (plB b i).take ≤ 10000) ∧ (0 ≤ (plB b i).room ∧ (plB b i).room ≤ 1000000000) ∧ WideB b (plB b i).take :=
  have hm := List.mem_of_getElem? (plB_get hi)
  ⟨(h.pol _ hm).1, (h.pol _ hm).2.1, (h.pol _ hm).2.2, h.wpol _ hm⟩
def filBad (b : Bas) (l : List Int) (i : Nat) : Bool := outB (flB l i) 0 (plB b i).room
def stB (b : Bas) (s : BSt) : Int := if (checkB b).2.2 ≠ 0 then (checkB b).2.2 else if (s.filled.length : Int) ≠ b.pols.length then 2 else if outB s.volume (vlB b 0) 1000000000 = true then 7 else if ((List.range s.filled.length).any (filBad b s.filled)) = true then 7 else 0
structure BstOk (b : Bas) (s : BSt) : Prop where
  len : s.filled.length = b.pols.length
  vol : vlB b 0 ≤ s.volume ∧ s.volume ≤ 1000000000
  fil : ∀ i, i < b.pols.length → 0 ≤ flB s.filled i ∧ flB s.filled i ≤ (plB b i).room
theorem st_ok {b : Bas} {s : BSt} (h : stB b s = 0) : BasOk b ∧ BstOk b s := by
  unfold stB at h
  split at h
  next h1 => exact absurd h h1
  next h1 =>
  split at h
  · simp at h
  next h2 =>
  split at h
  · simp at h
  next h3 =>
  split at h
  · simp at h
  next h4 =>
  simp only [Bool.not_eq_true, outB_false] at h3
  rw [Bool.not_eq_true, List.any_eq_false] at h4
  have hl : s.filled.length = b.pols.length := by omega
  exact ⟨check_ok (Decidable.not_not.1 h1), hl, h3, fun i hi => by have := h4 i (List.mem_range.2 (by omega)); unfold filBad at this; rw [Bool.not_eq_true, outB_false] at this; exact this⟩
def takeB (b : Bas) (v : Int) (x : Pol) (f : Int) : Int := if x.sill * exD b v < exN b v then min (x.take * (exN b v - x.sill * exD b v) / exD b v) (x.room - f) else 0
theorem take_bd {b : Bas} (h : BasOk b) {v f : Int} {x : Pol} (hv : vlB b 0 ≤ v) (hs : lvB b 0 ≤ x.sill) (ht : 0 ≤ x.take) (hw : WideB b x.take) (hf : 0 ≤ f ∧ f ≤ x.room) : 0 ≤ takeB b v x f ∧ takeB b v x f ≤ x.room - f ∧ takeB b v x f ≤ v - vlB b 0 := by
  unfold takeB
  split
  · next h1 =>
    have hd := exD_bd h v
    have hw2 := ex_wide h ht hw hv
    have e1 : lvB b 0 * exD b v ≤ x.sill * exD b v := Int.mul_le_mul_of_nonneg_right hs (by omega)
    have e2 : x.take * (exN b v - x.sill * exD b v) ≤ x.take * (exN b v - lvB b 0 * exD b v) := Int.mul_le_mul_of_nonneg_left (by omega) ht
    have e3 : 0 ≤ x.take * (exN b v - x.sill * exD b v) := Int.mul_nonneg ht (by omega)
    have q0 := Int.ediv_nonneg e3 (show 0 ≤ exD b v by omega)
    have q1 : x.take * (exN b v - x.sill * exD b v) / exD b v ≤ v - vlB b 0 := Int.ediv_le_of_le_mul (by omega) (Int.le_trans e2 hw2)
    omega
  · omega
/-- The water in the basin behind the first polders. -/
def volP (b : Bas) (l : List Int) (v : Int) : Nat → Int
  | 0 => v
  | k + 1 => volP b l v k - takeB b (volP b l v k) (plB b k) (flB l k)
def tkP (b : Bas) (l : List Int) (v : Int) (k : Nat) : Int := takeB b (volP b l v k) (plB b k) (flB l k)
theorem volP_bd {b : Bas} (h : BasOk b) {l : List Int} {v : Int} (hf : ∀ i, i < b.pols.length → 0 ≤ flB l i ∧ flB l i ≤ (plB b i).room) (hv : vlB b 0 ≤ v ∧ v ≤ 1000000000) : ∀ k, k ≤ b.pols.length → vlB b 0 ≤ volP b l v k ∧ volP b l v k ≤ v
  | 0, _ => ⟨hv.1, Int.le_refl _⟩
  | k + 1, hk => by
    have ih := volP_bd h hf hv k (by omega)
    obtain ⟨p1, p2, p3, p4⟩ := plB_ok h (show k < b.pols.length by omega)
    have ht := take_bd h ih.1 p1.1 p2.1 p4 (hf k (by omega))
    rw [volP]; omega
theorem tkP_bd {b : Bas} (h : BasOk b) {l : List Int} {v : Int} (hf : ∀ i, i < b.pols.length → 0 ≤ flB l i ∧ flB l i ≤ (plB b i).room) (hv : vlB b 0 ≤ v ∧ v ≤ 1000000000) {k : Nat} (hk : k < b.pols.length) : 0 ≤ tkP b l v k ∧ tkP b l v k ≤ (plB b k).room - flB l k ∧ tkP b l v k ≤ volP b l v k - vlB b 0 := by
  have ih := volP_bd h hf hv k (by omega)
  obtain ⟨p1, p2, p3, p4⟩ := plB_ok h hk
  exact take_bd h ih.1 p1.1 p2.1 p4 (hf k hk)
def tksP (b : Bas) (l : List Int) (v : Int) (k : Nat) : List Int := (List.range k).map (tkP b l v)
def filP (b : Bas) (l : List Int) (v : Int) (k : Nat) : List Int := (List.range k).map fun i => flB l i + tkP b l v i
theorem tksP_succ (b : Bas) (l : List Int) (v : Int) (k : Nat) : tksP b l v (k + 1) = tksP b l v k ++ [tkP b l v k] := by unfold tksP; rw [List.range_succ, List.map_append]; rfl
theorem filP_succ (b : Bas) (l : List Int) (v : Int) (k : Nat) : filP b l v (k + 1) = filP b l v k ++ [flB l k + tkP b l v k] := by unfold filP; rw [List.range_succ, List.map_append]; rfl
theorem tksP_len (b : Bas) (l : List Int) (v : Int) (k : Nat) : (tksP b l v k).length = k := by simp [tksP]
theorem filP_len (b : Bas) (l : List Int) (v : Int) (k : Nat) : (filP b l v k).length = k := by simp [filP]
/-- What is filled, where the first polders have been filled. -/
def mixP (b : Bas) (l : List Int) (v : Int) (k : Nat) : List Int := filP b l v k ++ l.drop k
theorem mixP_len {b : Bas} {l : List Int} {v : Int} {k : Nat} (h : k ≤ l.length) : (mixP b l v k).length = l.length := by unfold mixP; rw [List.length_append, filP_len, List.length_drop]; omega
theorem mixP_all {b : Bas} {l : List Int} {v : Int} {k : Nat} (h : k = l.length) : mixP b l v k = filP b l v k := by unfold mixP; rw [h, List.drop_length, List.append_nil]
theorem mixP_at {b : Bas} {l : List Int} {v : Int} {k : Nat} (h : k < l.length) : (mixP b l v k)[k]? = some (flB l k) := by
  unfold mixP
  rw [List.getElem?_append_right (by rw [filP_len]; exact Nat.le_refl _), filP_len, List.getElem?_drop, Nat.sub_self, Nat.add_zero, flB_get h]
theorem mixP_set {b : Bas} {l : List Int} {v : Int} {k : Nat} (h : k < l.length) : (mixP b l v k).set k (flB l k + tkP b l v k) = mixP b l v (k + 1) := by
  unfold mixP
  rw [filP_succ, List.set_append_right _ _ (by rw [filP_len]; exact Nat.le_refl _), filP_len, Nat.sub_self, List.drop_eq_getElem_cons h, List.set_cons_zero, List.append_assoc]; rfl
def leakB (b : Bas) (v o : Int) : Int := max (b.leak * (o * exD b v - exN b v) / exD b v) (vlB b 0 - v)
def ovB (b : Bas) (t : BTk) : Int := b.over * max 0 (t.outer - b.crest)
def v1B (s : BSt) (t : BTk) : Int := s.volume + t.river
def v2B (b : Bas) (s : BSt) (t : BTk) : Int := v1B s t + ovB b t
def lkB (b : Bas) (s : BSt) (t : BTk) : Int := leakB b (v2B b s t) t.outer
def v3B (b : Bas) (s : BSt) (t : BTk) : Int := v2B b s t + lkB b s t
def outV (b : Bas) (s : BSt) (t : BTk) : Int := min t.out (v3B b s t - vlB b 0)
def v4B (b : Bas) (s : BSt) (t : BTk) : Int := v3B b s t - outV b s t
def tkBad (t : BTk) : Bool := (outB t.outer (-20000) 20000 || outB t.river 0 10000000) || outB t.out 0 10000000
def stepE (b : Bas) (s : BSt) (t : BTk) : Int := if tkBad t = true then 7 else if 1000000000 < v1B s t then 3 else if 1000000000 < v2B b s t then 3 else if 1000000000 < v3B b s t then 3 else 0
def stepS (b : Bas) (s : BSt) (t : BTk) : BSt := ⟨volP b s.filled (v4B b s t) b.pols.length, filP b s.filled (v4B b s t) b.pols.length⟩
def stepF (b : Bas) (s : BSt) (t : BTk) : BFl := ⟨t.river, ovB b t, lkB b s t, outV b s t, tksP b s.filled (v4B b s t) b.pols.length⟩
structure TkOk (t : BTk) : Prop where
  outer : -20000 ≤ t.outer ∧ t.outer ≤ 20000
  river : 0 ≤ t.river ∧ t.river ≤ 10000000
  out : 0 ≤ t.out ∧ t.out ≤ 10000000
theorem tk_ok {t : BTk} (h : tkBad t = false) : TkOk t := by
  simp only [tkBad, Bool.or_eq_false_iff, outB_false] at h
  exact ⟨h.1.1, h.1.2, h.2⟩
theorem rate_mul {k z lo hi : Int} (hk : 0 ≤ k ∧ k ≤ 10000) (hz : -lo ≤ z ∧ z ≤ hi) (hl : 0 ≤ lo) (hh : 0 ≤ hi) : -(10000 * lo) ≤ k * z ∧ k * z ≤ 10000 * hi := by
  have a1 : k * z ≤ k * hi := Int.mul_le_mul_of_nonneg_left hz.2 hk.1
  have a2 : k * hi ≤ 10000 * hi := Int.mul_le_mul_of_nonneg_right hk.2 hh
  have a3 : k * (-lo) ≤ k * z := Int.mul_le_mul_of_nonneg_left hz.1 hk.1
  have a4 : k * lo ≤ 10000 * lo := Int.mul_le_mul_of_nonneg_right hk.2 hl
  have a5 : k * (-lo) = -(k * lo) := Int.mul_neg ..
  omega
section
variable {b : Bas} {s : BSt} {t : BTk} (hb : BasOk b) (hs : BstOk b s) (ht : TkOk t)
include hb hs ht
theorem ovB_bd : 0 ≤ ovB b t ∧ ovB b t ≤ 400000000 := by
  have h1 := hb.over
  have h2 := hb.crest
  have h3 := ht.outer
  have e1 : 0 ≤ b.over * max 0 (t.outer - b.crest) := Int.mul_nonneg h1.1 (by omega)
  have e2 : b.over * max 0 (t.outer - b.crest) ≤ 10000 * max 0 (t.outer - b.crest) := Int.mul_le_mul_of_nonneg_right h1.2 (by omega)
  unfold ovB; omega
theorem v1_bd : vlB b 0 ≤ v1B s t ∧ v1B s t ≤ 1010000000 := by have := hs.vol; have := ht.river; unfold v1B; omega
theorem v2_bd : vlB b 0 ≤ v2B b s t ∧ v2B b s t ≤ 1410000000 := by have := v1_bd hb hs ht; have := ovB_bd hb hs ht; unfold v2B; omega
theorem leak_mul {v : Int} (h0 : vlB b 0 ≤ v) (h1 : v ≤ 1000000000) : (-20000000000000 ≤ t.outer * exD b v ∧ t.outer * exD b v ≤ 20000000000000) ∧ -800000000000000000 ≤ b.leak * (t.outer * exD b v - exN b v) ∧ b.leak * (t.outer * exD b v - exN b v) ≤ 400000000000000000 := by
  have hd := exD_bd hb v
  have hn := exN_bd hb h0 h1
  have ho := ht.outer
  have hk := hb.leak
  have a1 : t.outer * exD b v ≤ 20000 * exD b v := Int.mul_le_mul_of_nonneg_right ho.2 (by omega)
  have a2 : -20000 * exD b v ≤ t.outer * exD b v := Int.mul_le_mul_of_nonneg_right ho.1 (by omega)
  have r := rate_mul (k := b.leak) (z := t.outer * exD b v - exN b v) (lo := 80000000000000) (hi := 40000000000000) hk ⟨by omega, by omega⟩ (by omega) (by omega)
  omega
theorem quo_bd {x d lo hi : Int} (hd : 1 ≤ d) (h : -lo ≤ x ∧ x ≤ hi) (hl : 0 ≤ lo) (hh : 0 ≤ hi) : -lo ≤ x / d ∧ x / d ≤ hi := by
  constructor
  · refine Int.le_ediv_of_mul_le (by omega) ?_
    have : lo * 1 ≤ lo * d := Int.mul_le_mul_of_nonneg_left hd hl
    have : -lo * d = -(lo * d) := Int.neg_mul ..
    omega
  · refine Int.ediv_le_of_le_mul (by omega) ?_
    have : hi * 1 ≤ hi * d := Int.mul_le_mul_of_nonneg_left hd hh
    omega
theorem lk_bd (h1 : v2B b s t ≤ 1000000000) : vlB b 0 - v2B b s t ≤ lkB b s t ∧ -1000000000000000000 ≤ lkB b s t ∧ lkB b s t ≤ 400000000000000000 := by
  have h2 := v2_bd hb hs ht
  have h3 := leak_mul hb hs ht h2.1 h1
  have hq := quo_bd hb hs ht (exD_bd hb (v2B b s t)).1 (lo := 800000000000000000) (hi := 400000000000000000) h3.2 (by omega) (by omega)
  have h0 := hb.vl 0 (by have := hb.len; omega)
  unfold lkB leakB; omega
theorem v3_bd (h1 : v2B b s t ≤ 1000000000) : vlB b 0 ≤ v3B b s t ∧ v3B b s t ≤ 401000000000000000 := by
  have := lk_bd hb hs ht h1
  unfold v3B; omega
theorem out_bd (h1 : v2B b s t ≤ 1000000000) : 0 ≤ outV b s t ∧ outV b s t ≤ v3B b s t - vlB b 0 := by
  have := v3_bd hb hs ht h1
  have := ht.out
  unfold outV; omega
theorem v4_bd (h1 : v2B b s t ≤ 1000000000) (h2 : v3B b s t ≤ 1000000000) : vlB b 0 ≤ v4B b s t ∧ v4B b s t ≤ 1000000000 := by
  have := out_bd hb hs ht h1
  unfold v4B; omega
theorem step_st (h1 : v2B b s t ≤ 1000000000) (h2 : v3B b s t ≤ 1000000000) : BstOk b (stepS b s t) := by
  have h4 := v4_bd hb hs ht h1 h2
  have hv := volP_bd hb hs.fil h4 b.pols.length (Nat.le_refl _)
  refine ⟨filP_len .., ⟨hv.1, by show volP _ _ _ _ ≤ _; omega⟩, fun i hi => ?_⟩
  have ht := tkP_bd hb hs.fil h4 hi
  have hf := hs.fil i hi
  have e : flB (stepS b s t).filled i = flB s.filled i + tkP b s.filled (v4B b s t) i := by
    show flB (filP _ _ _ _) i = _
    unfold flB filP; simp [List.getD, hi, flB]
  rw [e]; omega
end
theorem stepE_ok {b : Bas} {s : BSt} {t : BTk} (h : stepE b s t = 0) : tkBad t = false ∧ v1B s t ≤ 1000000000 ∧ v2B b s t ≤ 1000000000 ∧ v3B b s t ≤ 1000000000 := by
  unfold stepE at h
  split at h
  · simp at h
  next h1 =>
  split at h
  · simp at h
  next h2 =>
  split at h
  · simp at h
  next h3 =>
  split at h
  · simp at h
  next h4 => exact ⟨by simpa using h1, by omega, by omega, by omega⟩
def tkL (l : List BTk) (k : Nat) : BTk := l.getD k ⟨0, 0, 0⟩
theorem tkL_get {l : List BTk} {k : Nat} (h : k < l.length) : l[k]? = some (tkL l k) := by simp [tkL, List.getD, h]
def stN (b : Bas) (s : BSt) (l : List BTk) : Nat → BSt
  | 0 => s
  | k + 1 => stepS b (stN b s l k) (tkL l k)
def flN (b : Bas) (s : BSt) (l : List BTk) (k : Nat) : BFl := stepF b (stN b s l k) (tkL l k)
def errN (b : Bas) (s : BSt) (l : List BTk) (k : Nat) : Int := stepE b (stN b s l k) (tkL l k)
theorem stN_ok {b : Bas} {s : BSt} {l : List BTk} (hb : BasOk b) (hs : BstOk b s) : ∀ k, (∀ i, i < k → errN b s l i = 0) → BstOk b (stN b s l k)
  | 0, _ => hs
  | k + 1, h => by
    have ih := stN_ok hb hs k (fun i hi => h i (by omega))
    have he := stepE_ok (h k (by omega))
    exact step_st hb ih (tk_ok he.1) he.2.2.1 he.2.2.2
def runE (b : Bas) (s : BSt) (l : List BTk) : Int := if stB b s ≠ 0 then stB b s else if (300 : Int) < l.length then 3 else (firstN (errN b s l) l.length 0).2
def firstFl (b : Bas) (s : BSt) (l : List BTk) (i : Nat) : Int := match (List.range l.length).find? (fun k => decide (0 < flB (flN b s l k).taken i)) with
  | some k => (k : Int)
  | none => -1
def floodsF (b : Bas) (s : BSt) (l : List BTk) : List Int := (List.range b.pols.length).map (firstFl b s l)
theorem floodsF_len (b : Bas) (s : BSt) (l : List BTk) : (floodsF b s l).length = b.pols.length := by simp [floodsF]
theorem firstFl_bd (b : Bas) (s : BSt) (l : List BTk) (i : Nat) : -1 ≤ firstFl b s l i ∧ firstFl b s l i < l.length := by
  unfold firstFl
  split
  · next k h => have := List.mem_range.1 (List.mem_of_find?_eq_some h); omega
  · omega
def addF (frm n : Int) : Int := if 0 ≤ n then n + frm else n
def lateF (frm n : Int) : Bool := decide (0 ≤ n) && decide (200000 < n + frm)
def fromE (b : Bas) (s : BSt) (frm : Int) (hs : List (List BTk)) : Int :=
  if stB b s ≠ 0 then stB b s else if outB frm 0 200000 = true then 7 else if outB hs.length 1 8 = true then 3
  else if (firstR (runE b s) hs 0).2 ≠ 0 then (firstR (runE b s) hs 0).2
  else if (hs.any fun h => (floodsF b s h).any (lateF frm)) = true then 7 else 0
def fromL (b : Bas) (s : BSt) (frm : Int) (hs : List (List BTk)) : List (List Int) := hs.map fun h => (floodsF b s h).map (addF frm)
def fromR (b : Bas) (s : BSt) (frm : Int) (hs : List (List BTk)) : List (List Int) × Int := if fromE b s frm hs ≠ 0 then ([], fromE b s frm hs) else (fromL b s frm hs, 0)
/-- What a search for a volume finds. -/
def SrchB (b : Bas) (t : Int) (i : Nat) (is : Bool) : Prop := i ≤ b.rows.length ∧ (∀ k, k < i → vlB b k < t) ∧ (∀ k, i ≤ k → k < b.rows.length → t ≤ vlB b k) ∧ (is = true ↔ i < b.rows.length ∧ vlB b i = t)
theorem srch_idx {b : Bas} (hb : BasOk b) {v : Int} {i : Nat} {is : Bool} (h : SrchB b v i is) (h0 : vlB b 0 ≤ v) : min (if is = true then (i : Int) else (i : Int) - 1) ((b.rows.length : Int) - 2) = (idxB b v : Int) := by
  obtain ⟨h1, h2, h3, h4⟩ := h
  have hl := hb.len
  have key : ∀ j : Nat, j ≤ b.rows.length - 2 → (j = 0 ∨ vlB b j ≤ v) → (∀ k, j < k → k ≤ b.rows.length - 2 → v < vlB b k) → idxB b v = j := fun j a1 a2 a3 => idxR_eq b v a1 a2 a3
  cases hc : is with
  | true =>
    obtain ⟨k1, k2⟩ := h4.1 hc
    rw [if_pos rfl]
    by_cases hi : i ≤ b.rows.length - 2
    · rw [key i hi (.inr (by omega)) (fun k hk hk2 => by have := vl_mono hb (show i + 1 ≤ k by omega) (by omega); have := hb.vls i (by omega); omega)]; omega
    · rw [key (b.rows.length - 2) (Nat.le_refl _) (.inr (by have := h2 (b.rows.length - 2) (by omega); omega)) (fun k hk hk2 => by omega)]; omega
  | false =>
    have hne : ¬ (i < b.rows.length ∧ vlB b i = v) := fun k => by have := h4.2 k; rw [hc] at this; cases this
    rw [if_neg (by decide)]
    have hi0 : 0 < i := by
      rcases Nat.eq_zero_or_pos i with e | e
      · subst e
        have := h3 0 (Nat.le_refl _) (by omega)
        exact absurd ⟨by omega, by omega⟩ hne
      · exact e
    have hlast := h2 (i - 1) (by omega)
    by_cases hi : i - 1 ≤ b.rows.length - 2
    · rw [key (i - 1) hi (.inr (by omega)) (fun k hk hk2 => by
        have a := h3 i (Nat.le_refl _) (by omega)
        have := vl_mono hb (show i ≤ k by omega) (by omega)
        have : vlB b i ≠ v := fun e => hne ⟨by omega, e⟩
        omega)]; omega
    · rw [key (b.rows.length - 2) (Nat.le_refl _) (.inr (by have := h2 (b.rows.length - 2) (by omega); omega)) (fun k hk hk2 => by omega)]; omega
end Bx
namespace Bx
theorem cmpI_lt0 {a b : Int} : cmpI a b < 0 ↔ a < b := by unfold cmpI; split; · simp [*]
                                                          · split <;> simp <;> omega
theorem cmpI_eq0 {a b : Int} : cmpI a b = 0 ↔ a = b := by unfold cmpI; split; · simp; omega
                                                          · split <;> simp <;> omega
end Bx
namespace Bx
theorem tdiv_floor (a : Int) {b : Int} (hb : 0 < b) : (b.natAbs = b ∧ (a.tdiv b * b).natAbs ≤ a.natAbs) ∧ (a < a.tdiv b * b → a / b = a.tdiv b - 1) ∧ (¬ a < a.tdiv b * b → a / b = a.tdiv b) := by
  have hm := Int.mul_tdiv_add_tmod a b
  rw [Int.mul_comm] at hm
  have h1 := Int.tmod_lt_of_pos a hb
  have key : ∀ q r : Int, a = q * b + r → 0 ≤ r → r < b → a / b = q := fun q r e k1 k2 => ((Int.ediv_emod_unique hb).2 ⟨by rw [Int.mul_comm, e]; omega, k1, k2⟩).1
  rcases Int.le_total 0 a with h | h
  · have h2 := Int.tmod_nonneg b h
    have h3 : 0 ≤ a.tdiv b := Int.tdiv_nonneg h (by omega)
    have h4 : 0 ≤ a.tdiv b * b := Int.mul_nonneg h3 (by omega)
    exact ⟨by omega, by omega, fun _ => key _ (a.tmod b) (by omega) h2 h1⟩
  · have h2 : -b < a.tmod b ∧ a.tmod b ≤ 0 := by
      have e : (-a).tmod b = -(a.tmod b) := Int.neg_tmod a b
      have := Int.tmod_lt_of_pos (-a) hb
      have := Int.tmod_nonneg b (show 0 ≤ -a by omega)
      omega
    have h4 : a.tdiv b * b ≤ 0 := by
      have e : (-a).tdiv b = -(a.tdiv b) := Int.neg_tdiv a b
      have h3 : 0 ≤ (-a).tdiv b := Int.tdiv_nonneg (by omega) (by omega)
      have := Int.mul_nonneg h3 (show 0 ≤ b by omega)
      rw [e, Int.neg_mul] at this; omega
    refine ⟨by omega, fun hl => ?_, fun hl => key _ (a.tmod b) (by omega) (by omega) h1⟩
    exact key _ (a.tmod b + b) (by rw [Int.sub_mul, Int.one_mul]; omega) (by omega) (by omega)
end Bx
namespace Bx
theorem ovB_b {b : Bas} {t : BTk} (hb : BasOk b) (ht : -20000 ≤ t.outer ∧ t.outer ≤ 20000) : 0 ≤ ovB b t ∧ ovB b t ≤ 400000000 := by
  have h1 := hb.over
  have h2 := hb.crest
  have e1 : 0 ≤ b.over * max 0 (t.outer - b.crest) := Int.mul_nonneg h1.1 (by omega)
  have e2 : b.over * max 0 (t.outer - b.crest) ≤ 10000 * max 0 (t.outer - b.crest) := Int.mul_le_mul_of_nonneg_right h1.2 (by omega)
  unfold ovB; omega
end Bx
namespace Bx
theorem leak_m {b : Bas} {v o : Int} (hb : BasOk b) (ho : -20000 ≤ o ∧ o ≤ 20000) (h0 : vlB b 0 ≤ v) (h1 : v ≤ 1000000000) :
    (-9223372036854775000 ≤ -exN b v ∧ -exN b v ≤ 9223372036854775000) ∧ (-9223372036854775000 ≤ -o * exD b v ∧ -o * exD b v ≤ 9223372036854775000) ∧ (-9223372036854775000 ≤ -exN b v - -o * exD b v ∧ -exN b v - -o * exD b v ≤ 9223372036854775000) ∧
    (-9223372036854775000 ≤ b.leak * (-exN b v - -o * exD b v) ∧ b.leak * (-exN b v - -o * exD b v) ≤ 9223372036854775000) ∧ max (b.leak * (-exN b v - -o * exD b v) / exD b v) (vlB b 0 - v) = leakB b v o ∧ (-1000000000 ≤ vlB b 0 - v ∧ vlB b 0 - v ≤ 0) ∧ (-1000000000 ≤ leakB b v o ∧ leakB b v o ≤ 400000000000000000) := by
  have hd := exD_bd hb v
  have hn := exN_bd hb h0 h1
  have hv0 := hb.vl 0 (by have := hb.len; omega)
  have a1 : o * exD b v ≤ 20000 * exD b v := Int.mul_le_mul_of_nonneg_right ho.2 (by omega)
  have a2 : -20000 * exD b v ≤ o * exD b v := Int.mul_le_mul_of_nonneg_right ho.1 (by omega)
  have e : -o * exD b v = -(o * exD b v) := Int.neg_mul ..
  have e2 : -exN b v - -o * exD b v = o * exD b v - exN b v := by omega
  have r := rate_mul (k := b.leak) (z := o * exD b v - exN b v) (lo := 80000000000000) (hi := 40000000000000) hb.leak ⟨by omega, by omega⟩ (by omega) (by omega)
  have q : b.leak * (o * exD b v - exN b v) / exD b v ≤ 400000000000000000 := Int.ediv_le_of_le_mul (by omega) (by
    have : (400000000000000000 : Int) * 1 ≤ 400000000000000000 * exD b v := Int.mul_le_mul_of_nonneg_left hd.1 (by omega)
    omega)
  rw [e2]
  refine ⟨by omega, by omega, by omega, by omega, rfl, by omega, ?_⟩
  unfold leakB; omega
theorem take_m {b : Bas} {v : Int} {x : Pol} (hb : BasOk b) (h0 : vlB b 0 ≤ v) (h1 : v ≤ 1000000000) (hs : -20000 ≤ x.sill ∧ x.sill ≤ 20000) (ht : 0 ≤ x.take ∧ x.take ≤ 10000) :
    (-9223372036854775000 ≤ x.sill * exD b v ∧ x.sill * exD b v ≤ 9223372036854775000) ∧ (-9223372036854775000 ≤ exN b v - x.sill * exD b v ∧ exN b v - x.sill * exD b v ≤ 9223372036854775000) ∧ (-9223372036854775000 ≤ x.take * (exN b v - x.sill * exD b v) ∧ x.take * (exN b v - x.sill * exD b v) ≤ 9223372036854775000) := by
  have hd := exD_bd hb v
  have hn := exN_bd hb h0 h1
  have a1 : x.sill * exD b v ≤ 20000 * exD b v := Int.mul_le_mul_of_nonneg_right hs.2 (by omega)
  have a2 : -20000 * exD b v ≤ x.sill * exD b v := Int.mul_le_mul_of_nonneg_right hs.1 (by omega)
  have r := rate_mul (k := x.take) (z := exN b v - x.sill * exD b v) (lo := 80000000000000) (hi := 80000000000000) ht ⟨by omega, by omega⟩ (by omega) (by omega)
  exact ⟨by omega, by omega, by omega⟩
theorem take_some {b : Bas} {v f : Int} {x : Pol} (h : x.sill * exD b v < exN b v) : min (x.take * (exN b v - x.sill * exD b v) / exD b v) (x.room - f) = takeB b v x f := by unfold takeB; rw [if_pos h]
theorem take_none {b : Bas} {v f : Int} {x : Pol} (h : ¬ x.sill * exD b v < exN b v) : (0 : Int) = takeB b v x f := by unfold takeB; rw [if_neg h]
end Bx
namespace Bx
open Go
theorem bas_inj {a p a' p' : Value} {x y z : Value} (h : [a, x, y, z, p] = [a', x, y, z, p']) : a' = a ∧ p' = p := by simpa [eq_comm] using h
theorem slice_inj3 {a a' : Option Addr} {n n' c c' : Nat} (h : Value.slice a n c = .slice a' n' c') : a = a' ∧ n = n' ∧ c = c' := by simpa using h
end Bx

/- part Aw50 -/
namespace Go.Proofs.YtmoilbakmlekbaaGreatDoor
open Go Bx
/-- barrage/basin.valid -/
theorem c_valid {b : Bas} {cs : List Value} {w0 : World} (h : RBas w0 cs b) : CV Tryz.prog 124 #[.agg cs.toArray] w0 (.int .i64 (checkB b).2.2) := by
  obtain ⟨rv, pv, rfl, hsr, hlk, hcr, hov, hsp⟩ := id h
  obtain ⟨ar, cr, rfl, hrcap, hrmx, hrel⟩ := id hsr
  obtain ⟨ap, cp, rfl, hpcap, hpmx, hpel⟩ := id hsp
  refine enter Tryz.func124 rfl Tryz.ntmps124 rfl ?_
  have hS := St.start w0
  refine seq ?_
  refine region ?_
  refine sbox hS rfl rfl ?_; clear hS; intro b1 w hS
  refine sv (yAsg rfl) ?_
  refine nil ?_
  show Code.wp _ _ _ _ _
  refine seq ?_
  refine region ?_
  refine sv (yLdBA rfl Tryz.isAgg85 Tryz.sizeOf85 (hS.at _) rfl rfl) ?_
  refine scall Tryz.call141 (.cons rfl .nil) (c_CheckB (h.ext hS.ext)) ?_
  rintro _ w ⟨rfl, hE⟩; replace hS := hS.step hE; clear hE
  refine sv (yMove rfl) ?_
  refine sv (yExt rfl rfl) ?_
  refine sv (yExt rfl rfl) ?_
  refine sv (yExt rfl rfl) ?_
  refine sv (yAsg rfl) ?_
  refine sv (yAsg rfl) ?_
  refine sv (yAsg rfl) ?_
  refine nil ?_
  show Code.wp _ _ _ _ _
  refine seq ?_
  refine region ?_
  refine sv (yMove rfl) ?_
  refine sv (yAsg rfl) ?_
  refine nil ?_
  show Code.wp _ _ _ _ _
  refine wp_ret ?_
  exact retV (res1 rfl rfl) hS.ext
set_option maxHeartbeats 1000000 in
/-- barrage/basin.CheckState -/
theorem c_CheckState {b : Bas} {cs : List Value} {s : BSt} {qs : List Value} {w0 : World} (h : RBas w0 cs b) (h2 : RBst w0 qs s) : CV Tryz.prog 96 #[.agg cs.toArray, .agg qs.toArray] w0 (.int .i64 (stB b s)) := by
  obtain ⟨rv, pv, rfl, hsr, hlk, hcr, hov, hsp⟩ := id h
  obtain ⟨ar, cr, rfl, hrcap, hrmx, hrel⟩ := id hsr
  obtain ⟨ap, cp, rfl, hpcap, hpmx, hpel⟩ := id hsp
  obtain ⟨fv, rfl, hsv, hsf, hsm⟩ := id h2
  obtain ⟨af, cf, rfl, hfcap, hfmx, hfel⟩ := id hsf
  refine enter Tryz.func96 rfl Tryz.ntmps96 rfl ?_
  have hS := St.start w0
  refine seq ?_
  refine region ?_
  refine sbox hS rfl rfl ?_; clear hS; intro b2 w hS
  refine sbox hS rfl rfl ?_; clear hS; intro b3 w hS
  refine sv (yAsg rfl) ?_
  refine nil ?_
  show Code.wp _ _ _ _ _
  refine seq ?_
  refine region ?_
  refine sv (yLdBA rfl Tryz.isAgg85 Tryz.sizeOf85 (hS.at _) rfl rfl) ?_
  refine scall Tryz.call124 (.cons rfl .nil) (c_valid (h.ext hS.ext)) ?_
  rintro _ w ⟨rfl, hE⟩; replace hS := hS.step hE; clear hE
  refine sv (yAsg rfl) ?_
  refine nil ?_
  show Code.wp _ _ _ _ _
  refine seq ?_
  refine block ?_
  refine seq ?_
  refine region ?_
  refine sv (yMove rfl) ?_
  refine sv (yNeq rfl rfl) ?_
  refine sv (yAsg rfl) ?_
  refine nil ?_
  show Code.wp _ _ _ _ _
  refine cond rfl (fun c10 => ?_) (fun c10 => ?_)
  ·
    simp only [BS, ne_eq] at c10
    refine seq ?_
    refine region ?_
    refine sv (yMove rfl) ?_
    refine sv (yAsg rfl) ?_
    refine nil ?_
    show Code.wp _ _ _ _ _
    refine wp_ret (blockR (thenR ?_))
    exact retV (res1 rfl (eqI (by unfold stB; rw [if_pos c10]))) hS.ext
  ·
    simp only [BS, ne_eq] at c10
    refine seq ?_
    refine region ?_
    refine sv (fa87_1 rfl) ?_
    refine sv (yLdB rfl Tryz.isAgg34 (hS.at _) rfl) ?_
    refine sv (yLen rfl Tryz.underlying34) ?_
    refine sv (fa85_4 rfl) ?_
    refine sv (yLdB rfl Tryz.isAgg83 (hS.at _) rfl) ?_
    refine sv (yLen rfl Tryz.underlying83) ?_
    refine sv (yNeq rfl rfl) ?_
    refine sv (yAsg rfl) ?_
    refine nil ?_
    show Code.wp _ _ _ _ _
    refine cond rfl (fun c14 => ?_) (fun c14 => ?_)
    ·
      simp only [BS, ne_eq] at c14
      refine seq ?_
      refine region ?_
      refine sv (yAsg rfl) ?_
      refine nil ?_
      show Code.wp _ _ _ _ _
      refine wp_ret (blockR (thenR ?_))
      exact retV (res1 rfl (eqI (by unfold stB; rw [if_neg (fun k => k c10), if_pos c14]))) hS.ext
    ·
      simp only [BS, ne_eq] at c14
      have hbo := check_ok c10
      have hrl := hbo.len
      obtain ⟨br0, or0, cr0, har0, hlr0, hcr0, hRr0, -⟩ := sl_at hsr (brow_get (b := b) (show 0 < b.rows.length by omega))
      obtain ⟨rfl, hr01, hr02⟩ := hRr0
      refine seq ?_
      refine region_draw mixed (by kernel_rfl) hS ?_
      refine qv (fun w hS => (fa87_0 rfl)) ?_
      refine qv (fun w hS => (yLdB rfl Tryz.isAgg3 (hS.at _) rfl)) ?_
      refine qv (fun w hS => (fa85_0 rfl)) ?_
      refine qv (fun w hS => (yLdB rfl Tryz.isAgg82 (hS.at _) rfl)) ?_
      refine qv (fun w hS => (yIxa rfl har0 rfl Tryz.runUnderlying82 Tryz.sizeOf202 (by omega) (by omega))) ?_
      refine qv (fun w hS => (fa202_1 rfl)) ?_
      refine qv (fun w hS => (yLd rfl Tryz.isAgg3 ((hcr0.ext hS.ext).at (j := 1) rfl))) ?_
      refine qcall Tryz.call125 (.cons rfl (.cons rfl (.cons rfl .nil))) (fun w hS => c_bout) ?_
      refine qv (fun w hS => (yAsg rfl)) ?_
      clear hS; refine qnil (fun w hS => ?_)
      show Code.wp _ _ _ _ _
      refine cond rfl (fun c22 => ?_) (fun c22 => ?_)
      ·
        refine seq ?_
        refine region ?_
        refine sv (yAsg rfl) ?_
        refine nil ?_
        show Code.wp _ _ _ _ _
        refine wp_ret (blockR (thenR ?_))
        exact retV (res1 rfl (eqI (by unfold stB; rw [if_neg (fun k => k c10), if_neg (fun k => k c14), if_pos (show outB s.volume (vlB b 0) 1000000000 = true from c22)]))) hS.ext
      ·
        refine skip ?_
        show Code.wp _ _ _ _ _
        refine seq ?_
        refine seq ?_
        refine region ?_
        refine sv (fa87_1 rfl) ?_
        refine sv (yLdB rfl Tryz.isAgg34 (hS.at _) rfl) ?_
        refine sv (yLen rfl Tryz.underlying34) ?_
        refine sv (yMove rfl) ?_
        refine nil ?_
        show Code.wp _ _ _ _ _
        refine block ?_
        refine loop (fun f w zz => ∃ (k : Nat), f 2 = .pointer (some ⟨b2, 0, none⟩) ∧ f 3 = .pointer (some ⟨b3, 0, none⟩) ∧ f 32 = .slice af s.filled.length cf ∧ f 33 = .int .i64 (s.filled.length : Int) ∧ f 34 = .int .i64 (k : Int) ∧ StX [] w0 w [blk b3 [.int .i64 s.volume, .slice af s.filled.length cf] 87, blk b2 [.slice ar b.rows.length cr, .int .i64 b.leak, .int .i64 b.crest, .int .i64 b.over, .slice ap b.pols.length cp] 85] ∧ (k ≤ s.filled.length) ∧ ((List.range k).any (filBad b s.filled) = false) ∧ zz = s.filled.length - k) _ ⟨_, rfl, 0, rfl, rfl, rfl, rfl, rfl, hS, (Nat.zero_le _), (rfl), rfl⟩ ?_
        clear hS
        rintro f w _ ⟨k, h2, h3, h32, h33, h34, hS, hk, hN, rfl⟩
        refine seq ?_
        refine region ?_
        refine sv (yLss h34 h33) ?_
        refine nil ?_
        show Code.wp _ _ _ _ _
        refine seq ?_
        refine cond rfl (fun c35 => ?_) (fun c35 => ?_)
        ·
          simp only [BS, ne_eq] at c35
          obtain ⟨bx, ox, cx, hax, hlx, hcx, hRx, -⟩ := sl_at hsf (flB_get (l := s.filled) (show k < s.filled.length by omega))
          obtain ⟨rfl, hxi⟩ := hRx
          obtain ⟨bp, op, csp, hap, hlp, hcsp, hRp, -⟩ := sl_at hsp (plB_get (b := b) (show k < b.pols.length by omega))
          obtain ⟨rfl, -⟩ := hRp
          have hbad : filBad b s.filled k = outB (flB s.filled k) 0 (plB b k).room := rfl
          refine skip ?_
          show Code.wp _ _ _ _ _
          refine seq ?_
          refine block ?_
          refine seq ?_
          refine region ?_
          refine sv (yMove h34) ?_
          refine sv (yIxa h32 hax h34 Tryz.runUnderlying34 Tryz.sizeOf3 (by omega) (by omega)) ?_
          refine sv (yLd rfl Tryz.isAgg3 ((hcx.ext hS.ext).one)) ?_
          refine sv (yAsg rfl) ?_
          refine sv (yAsg rfl) ?_
          refine nil ?_
          show Code.wp _ _ _ _ _
          refine seq ?_
          refine region ?_
          refine sv (yMove rfl) ?_
          refine sv (fa85_4 h2) ?_
          refine sv (yLdB rfl Tryz.isAgg83 (hS.at _) rfl) ?_
          refine sv (yMove rfl) ?_
          refine sv (yIxa rfl hap rfl Tryz.runUnderlying83 Tryz.sizeOf204 (by omega) (by omega)) ?_
          refine sv (fa204_3 rfl) ?_
          refine sv (yLd rfl Tryz.isAgg3 ((hcsp.ext hS.ext).at (j := 3) rfl)) ?_
          refine scall Tryz.call125 (.cons rfl (.cons rfl (.cons rfl .nil))) c_bout ?_
          rintro _ w ⟨rfl, hE⟩; replace hS := hS.step hE; clear hE
          refine nil ?_
          show Code.wp _ _ _ _ _
          refine cond rfl (fun c46 => ?_) (fun c46 => ?_)
          ·
            refine seq ?_
            refine region ?_
            refine sv (yAsg rfl) ?_
            refine nil ?_
            show Code.wp _ _ _ _ _
            refine wp_ret (blockR (thenR (thenR (blockR (thenR ?_)))))
            exact retV (res1 rfl (eqI (by unfold stB; rw [if_neg (fun k => k c10), if_neg (fun k => k c14), if_neg (by rw [show outB s.volume (vlB b 0) 1000000000 = false from c22]; decide), if_pos (List.any_eq_true.2 ⟨k, List.mem_range.2 (by omega), hbad.trans c46⟩)]))) hS.ext
          ·
            refine skip ?_
            show Code.wp _ _ _ _ _
            refine region ?_
            refine sv (yAdd h34 rfl ⟨by omega, by omega⟩) ?_
            refine sv (yMove rfl) ?_
            refine nil ?_
            exact ⟨_, _, rfl, ⟨k + 1, h2, h3, h32, h33, rfl, hS, (by omega), (by rw [List.range_succ, List.any_append, hN, List.any_cons, List.any_nil, hbad, c46]; rfl), rfl⟩, by omega⟩
        ·
          simp only [BS, ne_eq] at c35
          obtain rfl : k = s.filled.length := by omega
          refine exit ?_
          show Code.wp _ _ _ _ _
          refine seq ?_
          refine region ?_
          refine sv (yAsg rfl) ?_
          refine nil ?_
          show Code.wp _ _ _ _ _
          refine wp_ret ?_
          exact retV (res1 rfl (eqI (by unfold stB; rw [if_neg (fun k => k c10), if_neg (fun k => k c14), if_neg (by rw [show outB s.volume (vlB b 0) 1000000000 = false from c22]; decide), if_neg (by rw [hN]; decide)]))) hS.ext
/-- barrage/basin.exact closure 1 -/
theorem c_exact1 {x : BRow} {t : Int} {w0 : World} : CV Tryz.prog 184 #[.agg (browC x).toArray, .int .i64 t] w0 (.int .i64 (cmpI x.volume t)) := by
  refine enter Tryz.func184 rfl Tryz.ntmps184 rfl ?_
  have hS := St.start w0
  refine seq ?_
  refine region ?_
  refine sbox hS rfl rfl ?_; clear hS; intro b2 w hS
  refine sv (yAsg rfl) ?_
  refine nil ?_
  show Code.wp _ _ _ _ _
  refine seq ?_
  refine region ?_
  refine sv (fa202_1 rfl) ?_
  refine sv (yLdB rfl Tryz.isAgg3 (hS.at _) rfl) ?_
  refine sv (yMove rfl) ?_
  refine scall Tryz.call119 (.cons rfl (.cons rfl .nil)) c_cmp ?_
  rintro _ w ⟨rfl, hE⟩; replace hS := hS.step hE; clear hE
  refine sv (yAsg rfl) ?_
  refine nil ?_
  show Code.wp _ _ _ _ _
  refine wp_ret ?_
  exact retV (res1 rfl rfl) hS.ext
set_option maxHeartbeats 1000000 in
/-- slices.BinarySearchFunc   barrage/api.BsRow,barrage/api.BsRow,int  -/
theorem c_SearchRow {b : Bas} {v : Value} {t : Int} {w0 : World} (hsl : Sl w0 2 RBrow v b.rows) (hok : BasOk b) : CE Tryz.prog 183 #[v, .int .i64 t, .func (.func 184) #[] #[]] w0 (fun v w' => ∃ i is, v = .tuple #[.int .i64 ((i : Nat) : Int), .bool is] ∧ SrchB b t i is ∧ Ext w0 w') := by
  have hrl := hok.len
  obtain ⟨a, cap, rfl, hcap, hmx, hel⟩ := id hsl
  refine enter Tryz.func183 rfl Tryz.ntmps183 rfl ?_
  have hS := St.start w0
  refine seq ?_
  refine region ?_
  refine sv (yAsg rfl) ?_
  refine sv (yAsg rfl) ?_
  refine nil ?_
  show Code.wp _ _ _ _ _
  refine seq ?_
  refine region ?_
  refine sv (yMove rfl) ?_
  refine sv (yLen rfl Tryz.underlying82) ?_
  refine sv (yAsg rfl) ?_
  refine nil ?_
  show Code.wp _ _ _ _ _
  refine seq ?_
  refine region ?_
  refine sv (yMove rfl) ?_
  refine sv (yAsg rfl) ?_
  refine sv (yAsg rfl) ?_
  refine nil ?_
  show Code.wp _ _ _ _ _
  refine seq ?_
  refine block ?_
  refine loop (fun f w zz => ∃ (i j : Nat), f 0 = .slice a b.rows.length cap ∧ f 1 = .int .i64 t ∧ f 2 = .func (.func 184) #[] #[] ∧ f 8 = .int .i64 (b.rows.length : Int) ∧ f 9 = .int .i64 (i : Int) ∧ f 10 = .int .i64 (j : Int) ∧ StX [] w0 w [] ∧ (i ≤ j ∧ j ≤ b.rows.length) ∧ (∀ k, k < i → vlB b k < t) ∧ (∀ k, j ≤ k → k < b.rows.length → t ≤ vlB b k) ∧ zz = j - i) _ ⟨_, rfl, 0, b.rows.length, rfl, rfl, rfl, rfl, rfl, rfl, hS, (⟨Nat.zero_le _, Nat.le_refl _⟩), (fun k h => absurd h (Nat.not_lt_zero k)), (fun k h h2 => by omega), rfl⟩ ?_
  clear hS
  rintro f w _ ⟨i, j, h0, h1, h2, h8, h9, h10, hS, hij, hlo, hhi, rfl⟩
  refine seq ?_
  refine seq ?_
  refine region ?_
  refine sv (yMove h9) ?_
  refine sv (yMove h10) ?_
  refine sv (yLss rfl rfl) ?_
  refine nil ?_
  show Code.wp _ _ _ _ _
  refine cond rfl (fun c17 => ?_) (fun c17 => ?_)
  ·
    simp only [BS, ne_eq] at c17
    refine skip ?_
    show Code.wp _ _ _ _ _
    refine block ?_
    refine seq ?_
    refine region ?_
    refine sv (yMove h9) ?_
    refine sv (yMove h10) ?_
    refine sv (yAdd rfl rfl ⟨by omega, by omega⟩) ?_
    refine sv (yToU rfl Tryz.underlying3 Tryz.underlying233 ⟨by omega, by omega⟩) ?_
    refine sv (yShr1 rfl rfl) ?_
    refine sv (Y.to (yToI rfl Tryz.underlying233 Tryz.underlying3 ⟨by omega, by omega⟩) (show Value.int .i64 (((i : Int) + (j : Int)) / 2) = .int .i64 (((i + j) / 2 : Nat) : Int) by congr 1)) ?_
    refine sv (yAsg rfl) ?_
    refine nil ?_
    show Code.wp _ _ _ _ _
    refine seq ?_
    refine region ?_
    obtain ⟨bx, ox, cx, hax, hlx, hcx, hRx, -⟩ := sl_at hsl (brow_get (b := b) (show (i + j) / 2 < b.rows.length by omega))
    obtain ⟨rfl, -⟩ := hRx
    refine sv (yMove h2) ?_
    refine sv (yMove h0) ?_
    refine sv (yMove rfl) ?_
    refine sv (yIxa rfl hax rfl Tryz.runUnderlying82 Tryz.sizeOf202 (by omega) (by omega)) ?_
    refine sv (yLdA rfl Tryz.isAgg202 Tryz.sizeOf202 (hcx.ext hS.ext) rfl) ?_
    refine sv (yMove h1) ?_
    refine scallf rfl Tryz.call184 (.cons rfl (.cons rfl .nil)) c_exact1 ?_
    rintro _ w ⟨rfl, hE⟩; replace hS := hS.step hE; clear hE
    refine sv (yLss rfl rfl) ?_
    refine nil ?_
    show Code.wp _ _ _ _ _
    refine cond rfl (fun c31 => ?_) (fun c31 => ?_)
    ·
      simp only [BS, ne_eq, cmpI_lt0] at c31
      refine region ?_
      refine sv (yMove rfl) ?_
      refine sv (yAdd rfl rfl ⟨by omega, by omega⟩) ?_
      refine sv (yAsg rfl) ?_
      refine nil ?_
      exact ⟨_, _, rfl, ⟨(i + j) / 2 + 1, j, h0, h1, h2, h8, rfl, h10, hS, (⟨by omega, by omega⟩), (fun k hk => by have := vl_mono hok (show k ≤ (i + j) / 2 by omega) (by omega); unfold vlB at *; omega), (hhi), rfl⟩, by omega⟩
    ·
      simp only [BS, ne_eq, cmpI_lt0] at c31
      refine region ?_
      refine sv (yMove rfl) ?_
      refine sv (yAsg rfl) ?_
      refine nil ?_
      exact ⟨_, _, rfl, ⟨i, (i + j) / 2, h0, h1, h2, h8, h9, rfl, hS, (⟨by omega, by omega⟩), (hlo), (fun k hk hkl => by have := vl_mono hok hk hkl; unfold vlB at *; omega), rfl⟩, by omega⟩
  ·
    simp only [BS, ne_eq] at c17
    refine exit ?_
    show Code.wp _ _ _ _ _
    refine seq ?_
    refine region ?_
    obtain rfl : i = j := by omega
    obtain ⟨bx, ox, hk⟩ : ∃ bx ox, i < b.rows.length → a = some ⟨bx, ox, none⟩ ∧ Cells w0 bx (ox + i * 2) (browC (brow b i)) := by
      by_cases hi : i < b.rows.length
      · obtain ⟨bx, ox, cs, ha, hlen, hcs, hR, -⟩ := sl_at hsl (brow_get (b := b) hi)
        exact ⟨bx, ox, fun _ => ⟨ha, by rw [← hR.1]; exact hcs⟩⟩
      · exact ⟨0, 0, fun h => absurd h hi⟩
    refine sv (yMove h9) ?_
    refine sv (yMove h9) ?_
    refine sv (yMove h8) ?_
    refine sv (yLss rfl rfl) ?_
    refine sv (yMove rfl) ?_
    refine sg rfl rfl rfl (fun g => (yMove h2)) (fun v40 g40 => ?_)
    refine sg rfl rfl rfl (fun g => (yMove h0)) (fun v41 g41 => ?_)
    refine sg rfl rfl rfl (fun g => (yMove h9)) (fun v42 g42 => ?_)
    refine sg rfl rfl rfl (fun g => (yIxa (g41.1 g) (hk (by have := of_decide_eq_true g; omega)).1 (g42.1 g) Tryz.runUnderlying82 Tryz.sizeOf202 (by omega) (of_decide_eq_true g))) (fun v43 g43 => ?_)
    refine sg rfl rfl rfl (fun g => (yLdA (g43.1 g) Tryz.isAgg202 Tryz.sizeOf202 ((hk (by have := of_decide_eq_true g; omega)).2.ext hS.ext) rfl)) (fun v44 g44 => ?_)
    refine sg rfl rfl rfl (fun g => (yMove h1)) (fun v45 g45 => ?_)
    refine sgcf hS rfl rfl rfl (fun g => (g40.1 g)) Tryz.call184 (fun g => (.cons (g44.1 g) (.cons (g45.1 g) .nil))) (fun g => c_exact1) ?_; clear hS; intro v46 w hS g46
    refine sg rfl rfl rfl (fun g => (yEql (g46.1 g) rfl)) (fun v47 g47 => ?_)
    refine sv (yAnd rfl (fun hB => (g47.1 hB)) rfl) ?_
    refine sv (yAsg rfl) ?_
    refine sv (yAsg rfl) ?_
    refine nil ?_
    show Code.wp _ _ _ _ _
    refine wp_ret ?_
    refine retQ (res2 rfl rfl rfl) ?_
    refine ⟨i, _, rfl, ⟨hij.2, hlo, hhi, ?_⟩, hS.ext⟩
    simp only [Bool.and_eq_true, decide_eq_true_eq, cmpI_eq0]
    exact ⟨fun ⟨h1, h2⟩ => ⟨by omega, h2⟩, fun ⟨h1, h2⟩ => ⟨by omega, h2⟩⟩
set_option maxHeartbeats 1000000 in
/-- barrage/basin.exact -/
theorem c_exact {b : Bas} {cs : List Value} {v : Int} {w0 : World} (h : RBas w0 cs b) (hok : BasOk b) (hv : vlB b 0 ≤ v ∧ v ≤ 1000000000) : CV Tryz.prog 180 #[.agg cs.toArray, .int .i64 v] w0 (.agg (.int .i64 (exN b v) :: .int .i64 (exD b v) :: []).toArray) := by
  obtain ⟨rv, pv, rfl, hsr, hlk, hcr, hov, hsp⟩ := id h
  obtain ⟨ar, cr, rfl, hrcap, hrmx, hrel⟩ := id hsr
  obtain ⟨ap, cp, rfl, hpcap, hpmx, hpel⟩ := id hsp
  have hrl := hok.len
  have hil := idx_lt hok v
  obtain ⟨p1, p2, p3⟩ := ex_parts hok hv.1 hv.2
  have p4 := exD_bd hok v
  have p5 := dl_bd hok v
  have p6 := exN_bd hok hv.1 hv.2
  unfold vlB at p1; unfold lvB at p2 p5; unfold lvB vlB at p3
  have p7 : exD b v = (brow b (idxB b v + 1)).volume - (brow b (idxB b v)).volume := rfl
  rw [p7] at p2
  obtain ⟨bx, ox, cx, hax, hlx, hcx, hRx, -⟩ := sl_at hsr (brow_get (b := b) (show idxB b v < b.rows.length by omega))
  obtain ⟨rfl, hx1, hx2⟩ := hRx
  obtain ⟨bz, oz, cz, haz, hlz, hcz, hRz, -⟩ := sl_at hsr (brow_get (b := b) hil)
  obtain ⟨rfl, hz1, hz2⟩ := hRz
  refine enter Tryz.func180 rfl Tryz.ntmps180 rfl ?_
  have hS := St.start w0
  refine seq ?_
  refine region ?_
  refine sbox hS rfl rfl ?_; clear hS; intro b2 w hS
  refine salloc hS Tryz.zeroValue273 rfl ?_; clear hS; intro b4 w hS
  refine nil ?_
  show Code.wp _ _ _ _ _
  refine seq ?_
  refine region ?_
  refine sv (fa85_0 rfl) ?_
  refine sv (yLdB rfl Tryz.isAgg82 (hS.at _) rfl) ?_
  refine sv (yMove rfl) ?_
  refine scall Tryz.call183 (.cons rfl (.cons rfl (.cons rfl .nil))) (c_SearchRow (hsr.ext RBrow.stays hS.ext) hok) ?_
  rintro _ w ⟨i, is, rfl, hse, hE⟩; replace hS := hS.step hE; clear hE
  have hsi := hse.1
  have hsx := srch_idx hok hse hv.1
  refine sv (yMove rfl) ?_
  refine sv (yExt rfl rfl) ?_
  refine sv (yExt rfl rfl) ?_
  refine sv (yAsg rfl) ?_
  refine sv (yAsg rfl) ?_
  refine nil ?_
  show Code.wp _ _ _ _ _
  refine seqJ (n := 60) (fun f w => ∃ (q : Int), f 1 = .int .i64 v ∧ f 2 = .pointer (some ⟨b2, 0, none⟩) ∧ f 4 = .pointer (some ⟨b4, 0, none⟩) ∧ f 5 = .int .i64 q ∧ StX [] w0 w [blk b4 [.int .i64 0, .int .i64 0] 273, blk b2 [.slice ar b.rows.length cr, .int .i64 b.leak, .int .i64 b.crest, .int .i64 b.over, .slice ap b.pols.length cp] 85] ∧ (min q ((b.rows.length : Int) - 2) = (idxB b v : Int)) ∧ (-1 ≤ q ∧ q ≤ 12) ∧ True) ?_ ?_
  ·
    refine seq ?_
    refine region ?_
    refine sv (yMove rfl) ?_
    refine sv (yNot rfl) ?_
    refine nil ?_
    show Code.wp _ _ _ _ _
    refine cond rfl (fun c18 => ?_) (fun c18 => ?_)
    ·
      refine region ?_
      refine sv (yMove rfl) ?_
      refine sv (ySub rfl rfl ⟨by omega, by omega⟩) ?_
      refine sv (yAsg rfl) ?_
      refine nil ?_
      exact ⟨_, rfl, (i : Int) - 1, rfl, rfl, rfl, rfl, hS, (by rw [if_neg (by revert c18; cases is <;> simp)] at hsx; omega), (by omega), trivial⟩
    ·
      refine skip ?_
      exact ⟨_, rfl, (i : Int), rfl, rfl, rfl, rfl, hS, (by rw [if_pos (by revert c18; cases is <;> simp)] at hsx; omega), (by omega), trivial⟩
  ·
    clear hS; rintro f w ⟨q, h1, h2, h4, h5, hS, hq, hqb, -⟩
    refine seq ?_
    refine region ?_
    refine sv (yMove h5) ?_
    refine sv (fa85_0 h2) ?_
    refine sv (yLdB rfl Tryz.isAgg82 (hS.at _) rfl) ?_
    refine sv (yLen rfl Tryz.underlying82) ?_
    refine sv (ySub rfl rfl ⟨by omega, by omega⟩) ?_
    refine sv (Y.to (yMin rfl rfl) (congrArg (Value.int .i64) hq)) ?_
    refine sv (yAsg rfl) ?_
    refine nil ?_
    show Code.wp _ _ _ _ _
    refine seq ?_
    refine region_mix (fun w => StX [] w0 w (blk b4 [.int .i64 0, .int .i64 0] 273 :: blk b2 [.slice ar b.rows.length cr, .int .i64 b.leak, .int .i64 b.crest, .int .i64 b.over, .slice ap b.pols.length cp] 85 :: [])) 15 mixed hS ?_
    clear hS; intro w hS
    refine f_step 0 (by kernel_rfl) rfl (fun c a a' w h => by obtain ⟨_, v, hv, _⟩ := h; cases hv) (by first | exact hS | exact hS.sub (.cons _ (List.Sublist.refl _)) | exact hS.sub (.cons _ (.cons _ (List.Sublist.refl _)))) (fun w hS => (fa85_0 h2)) ?_
    refine f_step 1 (by kernel_rfl) rfl (fun c a a' w h => by obtain ⟨_, v, hv, _⟩ := h; cases hv) (by first | exact hS | exact hS.sub (.cons _ (List.Sublist.refl _)) | exact hS.sub (.cons _ (.cons _ (List.Sublist.refl _)))) (fun w hS => (yLdB rfl Tryz.isAgg82 (hS.at _) rfl)) ?_
    refine f_step 2 (by kernel_rfl) rfl (fun c a a' w h => by obtain ⟨_, v, hv, _⟩ := h; cases hv) (by first | exact hS | exact hS.sub (.cons _ (List.Sublist.refl _)) | exact hS.sub (.cons _ (.cons _ (List.Sublist.refl _)))) (fun w hS => (yMove rfl)) ?_
    refine f_step 3 (by kernel_rfl) rfl (fun c a a' w h => by obtain ⟨_, v, hv, _⟩ := h; cases hv) (by first | exact hS | exact hS.sub (.cons _ (List.Sublist.refl _)) | exact hS.sub (.cons _ (.cons _ (List.Sublist.refl _)))) (fun w hS => (yIxa rfl hax rfl Tryz.runUnderlying82 Tryz.sizeOf202 (by omega) (by omega))) ?_
    refine f_step 4 (by kernel_rfl) rfl (fun c a a' w h => by obtain ⟨_, v, hv, _⟩ := h; cases hv) (by first | exact hS | exact hS.sub (.cons _ (List.Sublist.refl _)) | exact hS.sub (.cons _ (.cons _ (List.Sublist.refl _)))) (fun w hS => (yLdA rfl Tryz.isAgg202 Tryz.sizeOf202 (hcx.ext hS.ext) rfl)) ?_
    refine f_step 5 (by kernel_rfl) rfl (fun c a a' w h => by obtain ⟨_, v, hv, _⟩ := h; cases hv) (by first | exact hS | exact hS.sub (.cons _ (List.Sublist.refl _)) | exact hS.sub (.cons _ (.cons _ (List.Sublist.refl _)))) (fun w hS => (fa85_0 h2)) ?_
    refine f_step 6 (by kernel_rfl) rfl (fun c a a' w h => by obtain ⟨_, v, hv, _⟩ := h; cases hv) (by first | exact hS | exact hS.sub (.cons _ (List.Sublist.refl _)) | exact hS.sub (.cons _ (.cons _ (List.Sublist.refl _)))) (fun w hS => (yLdB rfl Tryz.isAgg82 (hS.at _) rfl)) ?_
    refine f_step 7 (by kernel_rfl) rfl (fun c a a' w h => by obtain ⟨_, v, hv, _⟩ := h; cases hv) (by first | exact hS | exact hS.sub (.cons _ (List.Sublist.refl _)) | exact hS.sub (.cons _ (.cons _ (List.Sublist.refl _)))) (fun w hS => (yMove rfl)) ?_
    refine f_step 8 (by kernel_rfl) rfl (fun c a a' w h => by obtain ⟨_, v, hv, _⟩ := h; cases hv) (by first | exact hS | exact hS.sub (.cons _ (List.Sublist.refl _)) | exact hS.sub (.cons _ (.cons _ (List.Sublist.refl _)))) (fun w hS => (yAdd rfl rfl ⟨by omega, by omega⟩)) ?_
    refine f_step 9 (by kernel_rfl) rfl (fun c a a' w h => by obtain ⟨_, v, hv, _⟩ := h; cases hv) (by first | exact hS | exact hS.sub (.cons _ (List.Sublist.refl _)) | exact hS.sub (.cons _ (.cons _ (List.Sublist.refl _)))) (fun w hS => (yIxa rfl haz rfl Tryz.runUnderlying82 Tryz.sizeOf202 (by omega) (by omega))) ?_
    refine f_step 10 (by kernel_rfl) rfl (fun c a a' w h => by obtain ⟨_, v, hv, _⟩ := h; cases hv) (by first | exact hS | exact hS.sub (.cons _ (List.Sublist.refl _)) | exact hS.sub (.cons _ (.cons _ (List.Sublist.refl _)))) (fun w hS => (yLdA rfl Tryz.isAgg202 Tryz.sizeOf202 (hcz.ext hS.ext) rfl)) ?_
    show wpA _ _ _ _ _ _ _ _ _ _
    refine a_step (i := 11) (is := [12]) (by kernel_rfl) ⟨?_, ?_, trivial⟩
    ·
      refine ⟨_, rfl, ?_⟩
      refine salloc hS Tryz.zeroValue202 rfl ?_; clear hS; intro b7 w hS
      refine nil ?_
      refine ⟨fun _ => (by first | exact hS | exact hS.sub (.cons _ (List.Sublist.refl _)) | exact hS.sub (.cons _ (.cons _ (List.Sublist.refl _)))), ?_⟩
      show wpA _ _ _ _ _ _ _ _ _ _
      show wpA _ _ _ _ _ _ _ _ _ _
      refine a_step (i := 12) (is := []) (by kernel_rfl) ⟨?_, trivial⟩
      refine ⟨_, rfl, ?_⟩
      refine salloc hS Tryz.zeroValue202 rfl ?_; clear hS; intro b8 w hS
      refine nil ?_
      refine ⟨fun _ => (by first | exact hS | exact hS.sub (.cons _ (List.Sublist.refl _)) | exact hS.sub (.cons _ (.cons _ (List.Sublist.refl _)))), ?_⟩
      show wpA _ _ _ _ _ _ _ _ _ _
      show wpA _ _ _ _ _ _ _ _ _ _
      refine a_step (i := 13) (is := []) (by kernel_rfl) ⟨?_, trivial⟩
      refine ⟨_, rfl, ?_⟩
      refine sst hS rfl rfl Tryz.sizeOf202 rfl rfl rfl rfl ?_; clear hS; intro w hS
      refine nil ?_
      refine ⟨fun _ => (by first | exact hS | exact hS.sub (.cons _ (List.Sublist.refl _)) | exact hS.sub (.cons _ (.cons _ (List.Sublist.refl _)))), ?_⟩
      show wpA _ _ _ _ _ _ _ _ _ _
      show wpA _ _ _ _ _ _ _ _ _ _
      refine a_step (i := 14) (is := []) (by kernel_rfl) ⟨?_, trivial⟩
      refine ⟨_, rfl, ?_⟩
      refine sst hS rfl rfl Tryz.sizeOf202 rfl rfl rfl rfl ?_; clear hS; intro w hS
      refine nil ?_
      refine ⟨fun _ => (by first | exact hS | exact hS.sub (.cons _ (List.Sublist.refl _)) | exact hS.sub (.cons _ (.cons _ (List.Sublist.refl _)))), ?_⟩
      show wpA _ _ _ _ _ _ _ _ _ _
      refine a_end (by kernel_rfl) ?_
      show Code.wp _ _ _ _ _
      refine seq ?_
      refine region ?_
      refine sv (fa202_1 rfl) ?_
      refine sv (yLdB rfl Tryz.isAgg3 (hS.at _) rfl) ?_
      refine sv (fa202_1 rfl) ?_
      refine sv (yLdB rfl Tryz.isAgg3 (hS.at _) rfl) ?_
      refine sv (ySub rfl rfl ⟨by omega, by omega⟩) ?_
      refine sv (yAsg rfl) ?_
      refine nil ?_
      show Code.wp _ _ _ _ _
      refine seq ?_
      refine region ?_
      refine sv (fa202_0 rfl) ?_
      refine sv (yLdB rfl Tryz.isAgg3 (hS.at _) rfl) ?_
      refine sv (yMove rfl) ?_
      refine sv (yMul rfl rfl ⟨by omega, by omega⟩) ?_
      refine sv (yMove h1) ?_
      refine sv (fa202_1 rfl) ?_
      refine sv (yLdB rfl Tryz.isAgg3 (hS.at _) rfl) ?_
      refine sv (ySub rfl rfl ⟨by omega, by omega⟩) ?_
      refine sv (fa202_0 rfl) ?_
      refine sv (yLdB rfl Tryz.isAgg3 (hS.at _) rfl) ?_
      refine sv (fa202_0 rfl) ?_
      refine sv (yLdB rfl Tryz.isAgg3 (hS.at _) rfl) ?_
      refine sv (ySub rfl rfl ⟨by omega, by omega⟩) ?_
      refine sv (yMul rfl rfl ⟨by omega, by omega⟩) ?_
      refine sv (yAdd rfl rfl ⟨by omega, by omega⟩) ?_
      refine sv (yMove rfl) ?_
      refine sv (yBuild Tryz.zeroValue273 rfl pl273 (.cons rfl rfl (.cons rfl rfl .nil)) rfl) ?_
      refine sst hS h4 rfl Tryz.sizeOf273 rfl rfl rfl rfl ?_; clear hS; intro w hS
      refine nil ?_
      show Code.wp _ _ _ _ _
      refine wp_ret ?_
      exact retV (resV1 rfl (rc h4 Tryz.isAgg273 Tryz.sizeOf273 (hS.at _) rfl rfl)) hS.ext
    ·
      refine ⟨_, rfl, ?_⟩
      refine salloc hS Tryz.zeroValue202 rfl ?_; clear hS; intro b8 w hS
      refine nil ?_
      refine ⟨fun _ => (by first | exact hS | exact hS.sub (.cons _ (List.Sublist.refl _)) | exact hS.sub (.cons _ (.cons _ (List.Sublist.refl _)))), ?_⟩
      show wpA _ _ _ _ _ _ _ _ _ _
      show wpA _ _ _ _ _ _ _ _ _ _
      refine a_step (i := 11) (is := []) (by kernel_rfl) ⟨?_, trivial⟩
      refine ⟨_, rfl, ?_⟩
      refine salloc hS Tryz.zeroValue202 rfl ?_; clear hS; intro b7 w hS
      refine nil ?_
      refine ⟨fun _ => (by first | exact hS | exact hS.sub (.cons _ (List.Sublist.refl _)) | exact hS.sub (.cons _ (.cons _ (List.Sublist.refl _)))), ?_⟩
      show wpA _ _ _ _ _ _ _ _ _ _
      show wpA _ _ _ _ _ _ _ _ _ _
      refine a_step (i := 13) (is := []) (by kernel_rfl) ⟨?_, trivial⟩
      refine ⟨_, rfl, ?_⟩
      refine sst hS rfl rfl Tryz.sizeOf202 rfl rfl rfl rfl ?_; clear hS; intro w hS
      refine nil ?_
      refine ⟨fun _ => (by first | exact hS | exact hS.sub (.cons _ (List.Sublist.refl _)) | exact hS.sub (.cons _ (.cons _ (List.Sublist.refl _)))), ?_⟩
      show wpA _ _ _ _ _ _ _ _ _ _
      show wpA _ _ _ _ _ _ _ _ _ _
      refine a_step (i := 14) (is := []) (by kernel_rfl) ⟨?_, trivial⟩
      refine ⟨_, rfl, ?_⟩
      refine sst hS rfl rfl Tryz.sizeOf202 rfl rfl rfl rfl ?_; clear hS; intro w hS
      refine nil ?_
      refine ⟨fun _ => (by first | exact hS | exact hS.sub (.cons _ (List.Sublist.refl _)) | exact hS.sub (.cons _ (.cons _ (List.Sublist.refl _)))), ?_⟩
      show wpA _ _ _ _ _ _ _ _ _ _
      refine a_end (by kernel_rfl) ?_
      show Code.wp _ _ _ _ _
      refine seq ?_
      refine region ?_
      refine sv (fa202_1 rfl) ?_
      refine sv (yLdB rfl Tryz.isAgg3 (hS.at _) rfl) ?_
      refine sv (fa202_1 rfl) ?_
      refine sv (yLdB rfl Tryz.isAgg3 (hS.at _) rfl) ?_
      refine sv (ySub rfl rfl ⟨by omega, by omega⟩) ?_
      refine sv (yAsg rfl) ?_
      refine nil ?_
      show Code.wp _ _ _ _ _
      refine seq ?_
      refine region ?_
      refine sv (fa202_0 rfl) ?_
      refine sv (yLdB rfl Tryz.isAgg3 (hS.at _) rfl) ?_
      refine sv (yMove rfl) ?_
      refine sv (yMul rfl rfl ⟨by omega, by omega⟩) ?_
      refine sv (yMove h1) ?_
      refine sv (fa202_1 rfl) ?_
      refine sv (yLdB rfl Tryz.isAgg3 (hS.at _) rfl) ?_
      refine sv (ySub rfl rfl ⟨by omega, by omega⟩) ?_
      refine sv (fa202_0 rfl) ?_
      refine sv (yLdB rfl Tryz.isAgg3 (hS.at _) rfl) ?_
      refine sv (fa202_0 rfl) ?_
      refine sv (yLdB rfl Tryz.isAgg3 (hS.at _) rfl) ?_
      refine sv (ySub rfl rfl ⟨by omega, by omega⟩) ?_
      refine sv (yMul rfl rfl ⟨by omega, by omega⟩) ?_
      refine sv (yAdd rfl rfl ⟨by omega, by omega⟩) ?_
      refine sv (yMove rfl) ?_
      refine sv (yBuild Tryz.zeroValue273 rfl pl273 (.cons rfl rfl (.cons rfl rfl .nil)) rfl) ?_
      refine sst hS h4 rfl Tryz.sizeOf273 rfl rfl rfl rfl ?_; clear hS; intro w hS
      refine nil ?_
      show Code.wp _ _ _ _ _
      refine wp_ret ?_
      exact retV (resV1 rfl (rc h4 Tryz.isAgg273 Tryz.sizeOf273 (hS.at _) rfl rfl)) hS.ext
end Go.Proofs.YtmoilbakmlekbaaGreatDoor

/- part Aw51 -/
namespace Go.Proofs.YtmoilbakmlekbaaGreatDoor
open Go Bx
/-- barrage/basin.floor -/
theorem c_floor {a c : Int} {w0 : World} (hc : 0 < c) (ha : -9223372036854775000 ≤ a ∧ a ≤ 9223372036854775000) : CV Tryz.prog 220 #[.int .i64 a, .int .i64 c] w0 (.int .i64 (a / c)) := by
  obtain ⟨⟨f0, f1⟩, f2, f3⟩ := tdiv_floor a hc
  have f4 := Int.natAbs_tdiv_le_natAbs a c
  refine enter Tryz.func220 rfl Tryz.ntmps220 rfl ?_
  have hS := St.start w0
  refine seq ?_
  refine region ?_
  refine sv (yAsg rfl) ?_
  refine nil ?_
  show Code.wp _ _ _ _ _
  refine seq ?_
  refine region ?_
  refine sv (yMove rfl) ?_
  refine sv (yMove rfl) ?_
  refine sv (yQuo rfl rfl hc ⟨by omega, by omega⟩) ?_
  refine sv (yAsg rfl) ?_
  refine nil ?_
  show Code.wp _ _ _ _ _
  refine seq ?_
  refine seq ?_
  refine region ?_
  refine sv (yMove rfl) ?_
  refine sv (yMove rfl) ?_
  refine sv (yMul rfl rfl ⟨by omega, by omega⟩) ?_
  refine sv (yMove rfl) ?_
  refine sv (yGtr rfl rfl) ?_
  refine nil ?_
  show Code.wp _ _ _ _ _
  refine cond rfl (fun c13 => ?_) (fun c13 => ?_)
  ·
    simp only [BS, ne_eq] at c13
    refine region ?_
    refine sv (yMove rfl) ?_
    refine sv (ySub rfl rfl ⟨by omega, by omega⟩) ?_
    refine sv (yAsg rfl) ?_
    refine nil ?_
    show Code.wp _ _ _ _ _
    refine seq ?_
    refine region ?_
    refine sv (yMove rfl) ?_
    refine sv (yAsg rfl) ?_
    refine nil ?_
    show Code.wp _ _ _ _ _
    refine wp_ret ?_
    exact retV (res1 rfl (eqI (f2 (by omega)))) hS.ext
  ·
    simp only [BS, ne_eq] at c13
    refine skip ?_
    show Code.wp _ _ _ _ _
    refine seq ?_
    refine region ?_
    refine sv (yMove rfl) ?_
    refine sv (yAsg rfl) ?_
    refine nil ?_
    show Code.wp _ _ _ _ _
    refine wp_ret ?_
    exact retV (res1 rfl (eqI (f3 (by omega)))) hS.ext
/-- (barrage/basin.ratio).minus -/
theorem c_minus {rn rd : Int} {w0 : World} (h1 : -9223372036854775000 ≤ rn ∧ rn ≤ 9223372036854775000) : CV Tryz.prog 181 #[.agg (.int .i64 rn :: .int .i64 rd :: []).toArray] w0 (.agg (.int .i64 (-rn) :: .int .i64 rd :: []).toArray) := by
  refine enter Tryz.func181 rfl Tryz.ntmps181 rfl ?_
  have hS := St.start w0
  refine seq ?_
  refine region ?_
  refine sbox hS rfl rfl ?_; clear hS; intro b1 w hS
  refine salloc hS Tryz.zeroValue273 rfl ?_; clear hS; intro b2 w hS
  refine nil ?_
  show Code.wp _ _ _ _ _
  refine seq ?_
  refine region ?_
  refine sv (fa273_0 rfl) ?_
  refine sv (yLdB rfl Tryz.isAgg3 (hS.at _) rfl) ?_
  refine sv (yNeg rfl ⟨by omega, by omega⟩) ?_
  refine sv (fa273_1 rfl) ?_
  refine sv (yLdB rfl Tryz.isAgg3 (hS.at _) rfl) ?_
  refine sv (yBuild Tryz.zeroValue273 rfl pl273 (.cons rfl rfl (.cons rfl rfl .nil)) rfl) ?_
  refine sst hS rfl rfl Tryz.sizeOf273 rfl rfl rfl rfl ?_; clear hS; intro w hS
  refine nil ?_
  show Code.wp _ _ _ _ _
  refine wp_ret ?_
  exact retV (resV1 rfl (rc rfl Tryz.isAgg273 Tryz.sizeOf273 (hS.at _) rfl rfl)) hS.ext
/-- (barrage/basin.ratio).above -/
theorem c_above {rn rd : Int} {l : Int} {w0 : World} (h1 : -9223372036854775000 ≤ l * rd ∧ l * rd ≤ 9223372036854775000) : CV Tryz.prog 218 #[.agg (.int .i64 rn :: .int .i64 rd :: []).toArray, .int .i64 l] w0 (.bool (decide (l * rd < rn))) := by
  refine enter Tryz.func218 rfl Tryz.ntmps218 rfl ?_
  have hS := St.start w0
  refine seq ?_
  refine region ?_
  refine sbox hS rfl rfl ?_; clear hS; intro b2 w hS
  refine sv (yAsg rfl) ?_
  refine nil ?_
  show Code.wp _ _ _ _ _
  refine seq ?_
  refine region ?_
  refine sv (fa273_0 rfl) ?_
  refine sv (yLdB rfl Tryz.isAgg3 (hS.at _) rfl) ?_
  refine sv (yMove rfl) ?_
  refine sv (fa273_1 rfl) ?_
  refine sv (yLdB rfl Tryz.isAgg3 (hS.at _) rfl) ?_
  refine sv (yMul rfl rfl ⟨by omega, by omega⟩) ?_
  refine sv (yGtr rfl rfl) ?_
  refine sv (yAsg rfl) ?_
  refine nil ?_
  show Code.wp _ _ _ _ _
  refine wp_ret ?_
  exact retV (res1 rfl rfl) hS.ext
/-- (barrage/basin.ratio).over -/
theorem c_over {rn rd : Int} {l r : Int} {w0 : World} (h1 : -9223372036854775000 ≤ l * rd ∧ l * rd ≤ 9223372036854775000) (h2 : -9223372036854775000 ≤ rn - l * rd ∧ rn - l * rd ≤ 9223372036854775000) (h3 : -9223372036854775000 ≤ r * (rn - l * rd) ∧ r * (rn - l * rd) ≤ 9223372036854775000) (hd : 0 < rd) : CV Tryz.prog 219 #[.agg (.int .i64 rn :: .int .i64 rd :: []).toArray, .int .i64 l, .int .i64 r] w0 (.int .i64 (r * (rn - l * rd) / rd)) := by
  refine enter Tryz.func219 rfl Tryz.ntmps219 rfl ?_
  have hS := St.start w0
  refine seq ?_
  refine region ?_
  refine sbox hS rfl rfl ?_; clear hS; intro b3 w hS
  refine sv (yAsg rfl) ?_
  refine nil ?_
  show Code.wp _ _ _ _ _
  refine seq ?_
  refine region ?_
  refine sv (yMove rfl) ?_
  refine sv (fa273_0 rfl) ?_
  refine sv (yLdB rfl Tryz.isAgg3 (hS.at _) rfl) ?_
  refine sv (yMove rfl) ?_
  refine sv (fa273_1 rfl) ?_
  refine sv (yLdB rfl Tryz.isAgg3 (hS.at _) rfl) ?_
  refine sv (yMul rfl rfl ⟨by omega, by omega⟩) ?_
  refine sv (ySub rfl rfl ⟨by omega, by omega⟩) ?_
  refine sv (yMul rfl rfl ⟨by omega, by omega⟩) ?_
  refine sv (fa273_1 rfl) ?_
  refine sv (yLdB rfl Tryz.isAgg3 (hS.at _) rfl) ?_
  refine scall Tryz.call220 (.cons rfl (.cons rfl .nil)) (c_floor hd h3) ?_
  rintro _ w ⟨rfl, hE⟩; replace hS := hS.step hE; clear hE
  refine sv (yAsg rfl) ?_
  refine nil ?_
  show Code.wp _ _ _ _ _
  refine wp_ret ?_
  exact retV (res1 rfl rfl) hS.ext
theorem m_above (v : Value) : Mth Tryz.prog 273 "barrage/basin.above" 218 v := fun w => by kernel_rfl
theorem m_over (v : Value) : Mth Tryz.prog 273 "barrage/basin.over" 219 v := fun w => by kernel_rfl
theorem na_over (v : Value) (w : World) : (nilAhead (Tryz.prog.types.size + Made.depth) 273 v "barrage/basin.over").run Tryz.prog w = .ok (some false) w := by kernel_rfl
/-- (*barrage/basin.water).spill -/
theorem c_spill {b : Bas} {t : BTk} {vol R O K U : Int} {ar ap : Option Addr} {cr cp bw : Nat} {fv tv : Value} {w0 : World} (hw : w0.heap[bw]? = some (.cells [.slice ar b.rows.length cr, .int .i64 b.leak, .int .i64 b.crest, .int .i64 b.over, .slice ap b.pols.length cp, .int .i64 vol, fv, .int .i64 t.outer, .int .i64 t.river, .int .i64 t.out, .int .i64 R, .int .i64 O, .int .i64 K, .int .i64 U, tv].toArray 268 (0, 0))) : CV Tryz.prog 179 #[.pointer (some ⟨bw, 0, none⟩)] w0 (.bool (decide (1000000000 < vol))) := by
  refine enter Tryz.func179 rfl Tryz.ntmps179 rfl ?_
  have hS := St.start w0
  refine seq ?_
  refine region ?_
  refine sv (yAsg rfl) ?_
  refine nil ?_
  show Code.wp _ _ _ _ _
  refine seq ?_
  refine region ?_
  refine sv (yMove rfl) ?_
  refine sv (yNil rfl) ?_
  refine sv (fa268_1 rfl) ?_
  refine sv (fa87_0 rfl) ?_
  refine sv (yLdB rfl Tryz.isAgg3 (hS.ext.get hw) rfl) ?_
  refine sv (yGtr rfl rfl) ?_
  refine sv (yAsg rfl) ?_
  refine nil ?_
  show Code.wp _ _ _ _ _
  refine wp_ret ?_
  exact retV (res1 rfl rfl) hS.ext
/-- (*barrage/basin.water).least -/
theorem c_least {b : Bas} {t : BTk} {vol R O K U : Int} {ar ap : Option Addr} {cr cp bw : Nat} {fv tv : Value} {w0 : World} (hw : w0.heap[bw]? = some (.cells [.slice ar b.rows.length cr, .int .i64 b.leak, .int .i64 b.crest, .int .i64 b.over, .slice ap b.pols.length cp, .int .i64 vol, fv, .int .i64 t.outer, .int .i64 t.river, .int .i64 t.out, .int .i64 R, .int .i64 O, .int .i64 K, .int .i64 U, tv].toArray 268 (0, 0))) (hok : BasOk b) (hsr : Sl w0 2 RBrow (.slice ar b.rows.length cr) b.rows) : CV Tryz.prog 182 #[.pointer (some ⟨bw, 0, none⟩)] w0 (.int .i64 (vlB b 0)) := by
  have hrl := hok.len
  obtain ⟨br0, or0, cr0, har0, hlr0, hcr0, hRr0, -⟩ := sl_at hsr (brow_get (b := b) (show 0 < b.rows.length by omega))
  obtain ⟨rfl, hr01, hr02⟩ := hRr0
  refine enter Tryz.func182 rfl Tryz.ntmps182 rfl ?_
  have hS := St.start w0
  refine seq ?_
  refine region ?_
  refine sv (yAsg rfl) ?_
  refine nil ?_
  show Code.wp _ _ _ _ _
  refine seq ?_
  refine region ?_
  refine sv (yMove rfl) ?_
  refine sv (yNil rfl) ?_
  refine sv (fa268_0 rfl) ?_
  refine sv (fa85_0 rfl) ?_
  refine sv (yLdB rfl Tryz.isAgg82 (hS.ext.get hw) rfl) ?_
  refine sv (yIxa rfl har0 rfl Tryz.runUnderlying82 Tryz.sizeOf202 (by omega) (by omega)) ?_
  refine sv (fa202_1 rfl) ?_
  refine sv (yLd rfl Tryz.isAgg3 ((hcr0.ext hS.ext).at (j := 1) rfl)) ?_
  refine sv (yAsg rfl) ?_
  refine nil ?_
  show Code.wp _ _ _ _ _
  refine wp_ret ?_
  exact retV (res1 rfl rfl) hS.ext
/-- (*barrage/basin.water).river -/
theorem c_river {b : Bas} {t : BTk} {vol R O K U : Int} {ar ap : Option Addr} {cr cp bw : Nat} {fv tv : Value} {w0 w : World} {L9 : List Bx.Item} (hS : StX [] w0 w (blk bw [.slice ar b.rows.length cr, .int .i64 b.leak, .int .i64 b.crest, .int .i64 b.over, .slice ap b.pols.length cp, .int .i64 (vol), fv, .int .i64 t.outer, .int .i64 t.river, .int .i64 t.out, .int .i64 (R), .int .i64 (O), .int .i64 (K), .int .i64 (U), tv] 268 :: L9)) (h1 : -10000000000 ≤ vol ∧ vol ≤ 10000000000) (h2 : TkOk t) : CE Tryz.prog 172 #[.pointer (some ⟨bw, 0, none⟩)] w (fun u w' => u = .bool (!decide (1000000000 < vol + t.river)) ∧ StX [] w0 w' (blk bw [.slice ar b.rows.length cr, .int .i64 b.leak, .int .i64 b.crest, .int .i64 b.over, .slice ap b.pols.length cp, .int .i64 (vol + t.river), fv, .int .i64 t.outer, .int .i64 t.river, .int .i64 t.out, .int .i64 (t.river), .int .i64 (O), .int .i64 (K), .int .i64 (U), tv] 268 :: L9)) := by
  obtain ⟨q1, q2, q3⟩ := h2
  refine enter Tryz.func172 rfl Tryz.ntmps172 rfl ?_
  skip
  refine seq ?_
  refine region ?_
  refine sv (yAsg rfl) ?_
  refine nil ?_
  show Code.wp _ _ _ _ _
  refine seq ?_
  refine region ?_
  refine sv (yMove rfl) ?_
  refine sv (yMove rfl) ?_
  refine sv (yNil rfl) ?_
  refine sv (fa268_2 rfl) ?_
  refine sv (fa96_1 rfl) ?_
  refine sv (yLdB rfl Tryz.isAgg3 (hS.at _) rfl) ?_
  refine sv (yNil rfl) ?_
  refine sv (fa268_3 rfl) ?_
  refine sv (fa172_0 rfl) ?_
  refine sst hS rfl rfl Tryz.sizeOf3 rfl rfl rfl rfl ?_; clear hS; intro w hS
  refine nil ?_
  show Code.wp _ _ _ _ _
  refine seq ?_
  refine region_tail mixed 14 (by kernel_rfl) hS ?_
  refine qv (fun w hS => (yMove rfl)) ?_
  refine qv (fun w hS => (yNil rfl)) ?_
  refine qv (fun w hS => (fa268_1 rfl)) ?_
  refine qv (fun w hS => (fa87_0 rfl)) ?_
  refine qv (fun w hS => (yLdB rfl Tryz.isAgg3 (hS.at _) rfl)) ?_
  refine qv (fun w hS => (yMove rfl)) ?_
  refine qv (fun w hS => (yNil rfl)) ?_
  refine qv (fun w hS => (fa268_2 rfl)) ?_
  refine qv (fun w hS => (fa96_1 rfl)) ?_
  refine qv (fun w hS => (yLdB rfl Tryz.isAgg3 (hS.at _) rfl)) ?_
  refine qv (fun w hS => (yAdd rfl rfl ⟨by omega, by omega⟩)) ?_
  refine qv (fun w hS => (yNil rfl)) ?_
  refine qv (fun w hS => (fa268_1 rfl)) ?_
  refine qv (fun w hS => (fa87_0 rfl)) ?_
  clear hS; refine qtl (fun w hS => ?_)
  refine sst hS rfl rfl Tryz.sizeOf3 rfl rfl rfl rfl ?_; clear hS; intro w hS
  refine nil ?_
  show Code.wp _ _ _ _ _
  refine seq ?_
  refine region ?_
  refine sv (yMove rfl) ?_
  refine scall Tryz.call179 (.cons rfl .nil) (c_spill (hS.at bw)) ?_
  rintro _ w ⟨rfl, hE⟩; replace hS := hS.step hE; clear hE
  refine sv (yNot rfl) ?_
  refine sv (yAsg rfl) ?_
  refine nil ?_
  show Code.wp _ _ _ _ _
  refine wp_ret ?_
  refine retQ (res1 rfl rfl) ?_
  exact ⟨rfl, hS⟩
/-- (*barrage/basin.water).over -/
theorem c_wover {b : Bas} {t : BTk} {vol R O K U : Int} {ar ap : Option Addr} {cr cp bw : Nat} {fv tv : Value} {w0 w : World} {L9 : List Bx.Item} (hS : StX [] w0 w (blk bw [.slice ar b.rows.length cr, .int .i64 b.leak, .int .i64 b.crest, .int .i64 b.over, .slice ap b.pols.length cp, .int .i64 (vol), fv, .int .i64 t.outer, .int .i64 t.river, .int .i64 t.out, .int .i64 (R), .int .i64 (O), .int .i64 (K), .int .i64 (U), tv] 268 :: L9)) (h1 : -10000000000 ≤ vol ∧ vol ≤ 10000000000) (h2 : TkOk t) (hok : BasOk b) : CE Tryz.prog 173 #[.pointer (some ⟨bw, 0, none⟩)] w (fun u w' => u = .bool (!decide (1000000000 < vol + ovB b t)) ∧ StX [] w0 w' (blk bw [.slice ar b.rows.length cr, .int .i64 b.leak, .int .i64 b.crest, .int .i64 b.over, .slice ap b.pols.length cp, .int .i64 (vol + ovB b t), fv, .int .i64 t.outer, .int .i64 t.river, .int .i64 t.out, .int .i64 (R), .int .i64 (ovB b t), .int .i64 (K), .int .i64 (U), tv] 268 :: L9)) := by
  obtain ⟨q1, q2, q3⟩ := h2
  have hob := ovB_b hok q1
  have hcr := hok.crest
  unfold ovB at *
  refine enter Tryz.func173 rfl Tryz.ntmps173 rfl ?_
  skip
  refine seq ?_
  refine region ?_
  refine sv (yAsg rfl) ?_
  refine nil ?_
  show Code.wp _ _ _ _ _
  refine seq ?_
  refine region_tail mixed 22 (by kernel_rfl) hS ?_
  refine qv (fun w hS => (yMove rfl)) ?_
  refine qv (fun w hS => (yMove rfl)) ?_
  refine qv (fun w hS => (yNil rfl)) ?_
  refine qv (fun w hS => (fa268_0 rfl)) ?_
  refine qv (fun w hS => (fa85_3 rfl)) ?_
  refine qv (fun w hS => (yLdB rfl Tryz.isAgg3 (hS.at _) rfl)) ?_
  refine qv (fun w hS => (yMove rfl)) ?_
  refine qv (fun w hS => (yNil rfl)) ?_
  refine qv (fun w hS => (fa268_2 rfl)) ?_
  refine qv (fun w hS => (fa96_0 rfl)) ?_
  refine qv (fun w hS => (yLdB rfl Tryz.isAgg3 (hS.at _) rfl)) ?_
  refine qv (fun w hS => (yMove rfl)) ?_
  refine qv (fun w hS => (yNil rfl)) ?_
  refine qv (fun w hS => (fa268_0 rfl)) ?_
  refine qv (fun w hS => (fa85_2 rfl)) ?_
  refine qv (fun w hS => (yLdB rfl Tryz.isAgg3 (hS.at _) rfl)) ?_
  refine qv (fun w hS => (ySub rfl rfl ⟨by omega, by omega⟩)) ?_
  refine qv (fun w hS => (yMax rfl rfl)) ?_
  refine qv (fun w hS => (yMul rfl rfl ⟨by omega, by omega⟩)) ?_
  refine qv (fun w hS => (yNil rfl)) ?_
  refine qv (fun w hS => (fa268_3 rfl)) ?_
  refine qv (fun w hS => (fa172_1 rfl)) ?_
  clear hS; refine qtl (fun w hS => ?_)
  refine sst hS rfl rfl Tryz.sizeOf3 rfl rfl rfl rfl ?_; clear hS; intro w hS
  refine nil ?_
  show Code.wp _ _ _ _ _
  refine seq ?_
  refine region_tail mixed 14 (by kernel_rfl) hS ?_
  refine qv (fun w hS => (yMove rfl)) ?_
  refine qv (fun w hS => (yNil rfl)) ?_
  refine qv (fun w hS => (fa268_1 rfl)) ?_
  refine qv (fun w hS => (fa87_0 rfl)) ?_
  refine qv (fun w hS => (yLdB rfl Tryz.isAgg3 (hS.at _) rfl)) ?_
  refine qv (fun w hS => (yMove rfl)) ?_
  refine qv (fun w hS => (yNil rfl)) ?_
  refine qv (fun w hS => (fa268_3 rfl)) ?_
  refine qv (fun w hS => (fa172_1 rfl)) ?_
  refine qv (fun w hS => (yLdB rfl Tryz.isAgg3 (hS.at _) rfl)) ?_
  refine qv (fun w hS => (yAdd rfl rfl ⟨by omega, by omega⟩)) ?_
  refine qv (fun w hS => (yNil rfl)) ?_
  refine qv (fun w hS => (fa268_1 rfl)) ?_
  refine qv (fun w hS => (fa87_0 rfl)) ?_
  clear hS; refine qtl (fun w hS => ?_)
  refine sst hS rfl rfl Tryz.sizeOf3 rfl rfl rfl rfl ?_; clear hS; intro w hS
  refine nil ?_
  show Code.wp _ _ _ _ _
  refine seq ?_
  refine region ?_
  refine sv (yMove rfl) ?_
  refine scall Tryz.call179 (.cons rfl .nil) (c_spill (hS.at bw)) ?_
  rintro _ w ⟨rfl, hE⟩; replace hS := hS.step hE; clear hE
  refine sv (yNot rfl) ?_
  refine sv (yAsg rfl) ?_
  refine nil ?_
  show Code.wp _ _ _ _ _
  refine wp_ret ?_
  refine retQ (res1 rfl rfl) ?_
  exact ⟨rfl, hS⟩
/-- (*barrage/basin.water).off -/
theorem c_off {b : Bas} {t : BTk} {vol R O K U : Int} {ar ap : Option Addr} {cr cp bw : Nat} {fv tv : Value} {w0 w : World} {L9 : List Bx.Item} (hS : StX [] w0 w (blk bw [.slice ar b.rows.length cr, .int .i64 b.leak, .int .i64 b.crest, .int .i64 b.over, .slice ap b.pols.length cp, .int .i64 (vol), fv, .int .i64 t.outer, .int .i64 t.river, .int .i64 t.out, .int .i64 (R), .int .i64 (O), .int .i64 (K), .int .i64 (U), tv] 268 :: L9)) (h1 : -10000000000000000000 < vol ∧ vol ≤ 410000000000000000) (h0 : vlB b 0 ≤ vol) (h2 : TkOk t) (hok : BasOk b) (hsr : Sl w0 2 RBrow (.slice ar b.rows.length cr) b.rows) : CE Tryz.prog 175 #[.pointer (some ⟨bw, 0, none⟩)] w (fun u w' => u = .bool true ∧ StX [] w0 w' (blk bw [.slice ar b.rows.length cr, .int .i64 b.leak, .int .i64 b.crest, .int .i64 b.over, .slice ap b.pols.length cp, .int .i64 (vol - min t.out (vol - vlB b 0)), fv, .int .i64 t.outer, .int .i64 t.river, .int .i64 t.out, .int .i64 (R), .int .i64 (O), .int .i64 (K), .int .i64 (min t.out (vol - vlB b 0)), tv] 268 :: L9)) := by
  obtain ⟨q1, q2, q3⟩ := h2
  have hv0 := hok.vl 0 (by have := hok.len; omega)
  refine enter Tryz.func175 rfl Tryz.ntmps175 rfl ?_
  skip
  refine seq ?_
  refine region ?_
  refine sv (yAsg rfl) ?_
  refine nil ?_
  show Code.wp _ _ _ _ _
  refine seq ?_
  refine region_tail mixed 18 (by kernel_rfl) hS ?_
  refine qv (fun w hS => (yMove rfl)) ?_
  refine qv (fun w hS => (yMove rfl)) ?_
  refine qv (fun w hS => (yNil rfl)) ?_
  refine qv (fun w hS => (fa268_2 rfl)) ?_
  refine qv (fun w hS => (fa96_2 rfl)) ?_
  refine qv (fun w hS => (yLdB rfl Tryz.isAgg3 (hS.at _) rfl)) ?_
  refine qv (fun w hS => (yMove rfl)) ?_
  refine qv (fun w hS => (yNil rfl)) ?_
  refine qv (fun w hS => (fa268_1 rfl)) ?_
  refine qv (fun w hS => (fa87_0 rfl)) ?_
  refine qv (fun w hS => (yLdB rfl Tryz.isAgg3 (hS.at _) rfl)) ?_
  refine qv (fun w hS => (yMove rfl)) ?_
  refine qcall Tryz.call182 (.cons rfl .nil) (fun w hS => (c_least (hS.at bw) hok (hsr.ext RBrow.stays hS.ext))) ?_
  refine qv (fun w hS => (ySub rfl rfl ⟨by omega, by omega⟩)) ?_
  refine qv (fun w hS => (yMin rfl rfl)) ?_
  refine qv (fun w hS => (yNil rfl)) ?_
  refine qv (fun w hS => (fa268_3 rfl)) ?_
  refine qv (fun w hS => (fa172_3 rfl)) ?_
  clear hS; refine qtl (fun w hS => ?_)
  refine sst hS rfl rfl Tryz.sizeOf3 rfl rfl rfl rfl ?_; clear hS; intro w hS
  refine nil ?_
  show Code.wp _ _ _ _ _
  refine seq ?_
  refine region_tail mixed 14 (by kernel_rfl) hS ?_
  refine qv (fun w hS => (yMove rfl)) ?_
  refine qv (fun w hS => (yNil rfl)) ?_
  refine qv (fun w hS => (fa268_1 rfl)) ?_
  refine qv (fun w hS => (fa87_0 rfl)) ?_
  refine qv (fun w hS => (yLdB rfl Tryz.isAgg3 (hS.at _) rfl)) ?_
  refine qv (fun w hS => (yMove rfl)) ?_
  refine qv (fun w hS => (yNil rfl)) ?_
  refine qv (fun w hS => (fa268_3 rfl)) ?_
  refine qv (fun w hS => (fa172_3 rfl)) ?_
  refine qv (fun w hS => (yLdB rfl Tryz.isAgg3 (hS.at _) rfl)) ?_
  refine qv (fun w hS => (ySub rfl rfl ⟨by omega, by omega⟩)) ?_
  refine qv (fun w hS => (yNil rfl)) ?_
  refine qv (fun w hS => (fa268_1 rfl)) ?_
  refine qv (fun w hS => (fa87_0 rfl)) ?_
  clear hS; refine qtl (fun w hS => ?_)
  refine sst hS rfl rfl Tryz.sizeOf3 rfl rfl rfl rfl ?_; clear hS; intro w hS
  refine nil ?_
  show Code.wp _ _ _ _ _
  refine seq ?_
  refine region ?_
  refine sv (yAsg rfl) ?_
  refine nil ?_
  show Code.wp _ _ _ _ _
  refine wp_ret ?_
  refine retQ (res1 rfl rfl) ?_
  exact ⟨rfl, hS⟩
end Go.Proofs.YtmoilbakmlekbaaGreatDoor

/- part Aw52 -/
namespace Go.Proofs.YtmoilbakmlekbaaGreatDoor
open Go Bx
set_option maxHeartbeats 1000000 in
/-- (*barrage/basin.water).leak -/
theorem c_leak {b : Bas} {t : BTk} {vol R O K U : Int} {ar ap : Option Addr} {cr cp bw : Nat} {fv tv : Value} {w0 w : World} {L9 : List Bx.Item} (hS : StX [] w0 w (blk bw [.slice ar b.rows.length cr, .int .i64 b.leak, .int .i64 b.crest, .int .i64 b.over, .slice ap b.pols.length cp, .int .i64 (vol), fv, .int .i64 t.outer, .int .i64 t.river, .int .i64 t.out, .int .i64 (R), .int .i64 (O), .int .i64 (K), .int .i64 (U), tv] 268 :: L9)) (h0 : vlB b 0 ≤ vol) (h1 : vol ≤ 1000000000) (h2 : TkOk t) (hok : BasOk b) (hb : RBas w0 [.slice ar b.rows.length cr, .int .i64 b.leak, .int .i64 b.crest, .int .i64 b.over, .slice ap b.pols.length cp] b) : CE Tryz.prog 174 #[.pointer (some ⟨bw, 0, none⟩)] w (fun u w' => u = .bool (!decide (1000000000 < vol + leakB b vol t.outer)) ∧ StX [] w0 w' (blk bw [.slice ar b.rows.length cr, .int .i64 b.leak, .int .i64 b.crest, .int .i64 b.over, .slice ap b.pols.length cp, .int .i64 (vol + leakB b vol t.outer), fv, .int .i64 t.outer, .int .i64 t.river, .int .i64 t.out, .int .i64 (R), .int .i64 (O), .int .i64 (leakB b vol t.outer), .int .i64 (U), tv] 268 :: L9)) := by
  obtain ⟨_, _, he, hsr, hlk, hcr, hov, hsp⟩ := id hb
  obtain ⟨rfl, rfl⟩ := bas_inj he
  have hrl := hok.len
  have hnp := hok.npol
  obtain ⟨q1, q2, q3⟩ := h2
  obtain ⟨m1, m2, m3, m4, m5, m6, m7⟩ := leak_m hok q1 h0 h1
  have hv0 := hok.vl 0 (by omega)
  have hd1 := (exD_bd hok vol).1
  refine enter Tryz.func174 rfl Tryz.ntmps174 rfl ?_
  skip
  refine seq ?_
  refine region ?_
  refine sv (yAsg rfl) ?_
  refine nil ?_
  show Code.wp _ _ _ _ _
  refine seq ?_
  refine region_draw mixed (by kernel_rfl) hS ?_
  refine qv (fun w hS => (yMove rfl)) ?_
  refine qv (fun w hS => (yNil rfl)) ?_
  refine qv (fun w hS => (fa268_0 rfl)) ?_
  refine qv (fun w hS => (yLdBA rfl Tryz.isAgg85 Tryz.sizeOf85 (hS.at _) rfl rfl)) ?_
  refine qv (fun w hS => (yMove rfl)) ?_
  refine qv (fun w hS => (yNil rfl)) ?_
  refine qv (fun w hS => (fa268_1 rfl)) ?_
  refine qv (fun w hS => (fa87_0 rfl)) ?_
  refine qv (fun w hS => (yLdB rfl Tryz.isAgg3 (hS.at _) rfl)) ?_
  refine qcall Tryz.call180 (.cons rfl (.cons rfl .nil)) (fun w hS => (c_exact (hb.ext hS.ext) hok ⟨h0, h1⟩)) ?_
  refine qcall Tryz.call181 (.cons rfl .nil) (fun w hS => (c_minus (by omega))) ?_
  refine qv (fun w hS => (yIfaceG rfl Tryz.underlying273 rfl)) ?_
  refine qv (fun w hS => (yAsg rfl)) ?_
  clear hS; refine qnil (fun w hS => ?_)
  show Code.wp _ _ _ _ _
  refine seq ?_
  refine region_tail mixed 29 (by kernel_rfl) hS ?_
  refine qv (fun w hS => (yMove rfl)) ?_
  refine qv (fun w hS => (yMove rfl)) ?_
  refine qv (fun w hS => (yMove rfl)) ?_
  refine qv (fun w hS => (yNil rfl)) ?_
  refine qv (fun w hS => (fa268_2 rfl)) ?_
  refine qv (fun w hS => (fa96_0 rfl)) ?_
  refine qv (fun w hS => (yLdB rfl Tryz.isAgg3 (hS.at _) rfl)) ?_
  refine qv (fun w hS => (yNeg rfl ⟨by omega, by omega⟩)) ?_
  refine qv (fun w hS => (yMove rfl)) ?_
  refine qv (fun w hS => (yNil rfl)) ?_
  refine qv (fun w hS => (fa268_0 rfl)) ?_
  refine qv (fun w hS => (fa85_1 rfl)) ?_
  refine qv (fun w hS => (yLdB rfl Tryz.isAgg3 (hS.at _) rfl)) ?_
  refine qv (fun w hS => (yFnM rfl)) ?_
  refine qv (fun w hS => (yNilM rfl (na_over _))) ?_
  refine qv (fun w hS => (yMove rfl)) ?_
  refine qinv rfl (m_over _) (.cons rfl (.cons rfl .nil)) Tryz.call219 (fun w hS => (c_over m2 m3 m4 (by omega))) ?_
  refine qv (fun w hS => (yMove rfl)) ?_
  refine qcall Tryz.call182 (.cons rfl .nil) (fun w hS => (c_least (hS.at bw) hok (hsr.ext RBrow.stays hS.ext))) ?_
  refine qv (fun w hS => (yMove rfl)) ?_
  refine qv (fun w hS => (yNil rfl)) ?_
  refine qv (fun w hS => (fa268_1 rfl)) ?_
  refine qv (fun w hS => (fa87_0 rfl)) ?_
  refine qv (fun w hS => (yLdB rfl Tryz.isAgg3 (hS.at _) rfl)) ?_
  refine qv (fun w hS => (ySub rfl rfl ⟨by omega, by omega⟩)) ?_
  refine qv (fun w hS => (Y.to (yMax rfl rfl) (congrArg (Value.int .i64) m5))) ?_
  refine qv (fun w hS => (yNil rfl)) ?_
  refine qv (fun w hS => (fa268_3 rfl)) ?_
  refine qv (fun w hS => (fa172_2 rfl)) ?_
  clear hS; refine qtl (fun w hS => ?_)
  refine sst hS rfl rfl Tryz.sizeOf3 rfl rfl rfl rfl ?_; clear hS; intro w hS
  refine nil ?_
  show Code.wp _ _ _ _ _
  refine seq ?_
  refine region_tail mixed 14 (by kernel_rfl) hS ?_
  refine qv (fun w hS => (yMove rfl)) ?_
  refine qv (fun w hS => (yNil rfl)) ?_
  refine qv (fun w hS => (fa268_1 rfl)) ?_
  refine qv (fun w hS => (fa87_0 rfl)) ?_
  refine qv (fun w hS => (yLdB rfl Tryz.isAgg3 (hS.at _) rfl)) ?_
  refine qv (fun w hS => (yMove rfl)) ?_
  refine qv (fun w hS => (yNil rfl)) ?_
  refine qv (fun w hS => (fa268_3 rfl)) ?_
  refine qv (fun w hS => (fa172_2 rfl)) ?_
  refine qv (fun w hS => (yLdB rfl Tryz.isAgg3 (hS.at _) rfl)) ?_
  refine qv (fun w hS => (yAdd rfl rfl ⟨by omega, by omega⟩)) ?_
  refine qv (fun w hS => (yNil rfl)) ?_
  refine qv (fun w hS => (fa268_1 rfl)) ?_
  refine qv (fun w hS => (fa87_0 rfl)) ?_
  clear hS; refine qtl (fun w hS => ?_)
  refine sst hS rfl rfl Tryz.sizeOf3 rfl rfl rfl rfl ?_; clear hS; intro w hS
  refine nil ?_
  show Code.wp _ _ _ _ _
  refine seq ?_
  refine region ?_
  refine sv (yMove rfl) ?_
  refine scall Tryz.call179 (.cons rfl .nil) (c_spill (hS.at bw)) ?_
  rintro _ w ⟨rfl, hE⟩; replace hS := hS.step hE; clear hE
  refine sv (yNot rfl) ?_
  refine sv (yAsg rfl) ?_
  refine nil ?_
  show Code.wp _ _ _ _ _
  refine wp_ret ?_
  refine retQ (res1 rfl rfl) ?_
  exact ⟨rfl, hS⟩
set_option maxHeartbeats 4000000 in
/-- (*barrage/basin.water).polders -/
theorem c_polders {b : Bas} {t : BTk} {v0 R O K U : Int} {ar ap : Option Addr} {cr cp bw : Nat}  {l : List Int} {af : Option Addr} {cf : Nat} {w0 w : World} {L9 : List Bx.Item} (hS : StX [] w0 w (blk bw [.slice ar b.rows.length cr, .int .i64 b.leak, .int .i64 b.crest, .int .i64 b.over, .slice ap b.pols.length cp, .int .i64 (volP b l v0 0), .slice af l.length cf, .int .i64 t.outer, .int .i64 t.river, .int .i64 t.out, .int .i64 (R), .int .i64 (O), .int .i64 (K), .int .i64 (U), .slice none 0 0] 268 :: rowI (.slice af l.length cf) 3 1 l.length ((mixP b l v0 0).flatMap Bx.encI) :: L9)) (hv : vlB b 0 ≤ v0 ∧ v0 ≤ 1000000000) (hll : l.length = b.pols.length) (hf : ∀ i, i < b.pols.length → 0 ≤ flB l i ∧ flB l i ≤ (plB b i).room) (hok : BasOk b) (hb : RBas w0 [.slice ar b.rows.length cr, .int .i64 b.leak, .int .i64 b.crest, .int .i64 b.over, .slice ap b.pols.length cp] b) : CE Tryz.prog 176 #[.pointer (some ⟨bw, 0, none⟩)] w (fun u w' => u = .bool true ∧ ∃ tv, StX [] w0 w' (blk bw [.slice ar b.rows.length cr, .int .i64 b.leak, .int .i64 b.crest, .int .i64 b.over, .slice ap b.pols.length cp, .int .i64 (volP b l v0 b.pols.length), .slice af l.length cf, .int .i64 t.outer, .int .i64 t.river, .int .i64 t.out, .int .i64 (R), .int .i64 (O), .int .i64 (K), .int .i64 (U), tv] 268 :: rowI (tv) 3 1 b.pols.length ((tksP b l v0 b.pols.length).flatMap Bx.encI) :: rowI (.slice af l.length cf) 3 1 l.length ((mixP b l v0 b.pols.length).flatMap Bx.encI) :: L9)) := by
  obtain ⟨_, _, he, hsr, hlk, hcr, hov, hsp⟩ := id hb
  obtain ⟨rfl, rfl⟩ := bas_inj he
  have hrl := hok.len
  have hnp := hok.npol
  
  refine enter Tryz.func176 rfl Tryz.ntmps176 rfl ?_
  skip
  refine seq ?_
  refine region ?_
  refine sv (yAsg rfl) ?_
  refine nil ?_
  show Code.wp _ _ _ _ _
  refine seq ?_
  refine seq ?_
  refine region ?_
  refine sv (yMove rfl) ?_
  refine sv (yNil rfl) ?_
  refine sv (fa268_0 rfl) ?_
  refine sv (fa85_4 rfl) ?_
  refine sv (yLdB rfl Tryz.isAgg83 (hS.at _) rfl) ?_
  refine sv (yLen rfl Tryz.underlying83) ?_
  refine sv (yMove rfl) ?_
  refine nil ?_
  show Code.wp _ _ _ _ _
  refine block ?_
  refine loop (fun f w zz => ∃ (k : Nat) (tv : Value), f 0 = .pointer (some ⟨bw, 0, none⟩) ∧ f 11 = .slice ap b.pols.length cp ∧ f 12 = .int .i64 (b.pols.length : Int) ∧ f 13 = .int .i64 (k : Int) ∧ StX [] w0 w ((blk bw [.slice ar b.rows.length cr, .int .i64 b.leak, .int .i64 b.crest, .int .i64 b.over, .slice ap b.pols.length cp, .int .i64 (volP b l v0 k), .slice af l.length cf, .int .i64 t.outer, .int .i64 t.river, .int .i64 t.out, .int .i64 (R), .int .i64 (O), .int .i64 (K), .int .i64 (U), tv] 268 :: rowI (tv) 3 1 k ((tksP b l v0 k).flatMap Bx.encI) :: rowI (.slice af l.length cf) 3 1 l.length ((mixP b l v0 k).flatMap Bx.encI) :: L9)) ∧ (k ≤ b.pols.length) ∧ zz = b.pols.length - k) _ ⟨_, rfl, 0, _, rfl, rfl, rfl, rfl, (hS.nilrow 3 1 |>.perm (List.Perm.swap _ _ _)), (Nat.zero_le _), rfl⟩ ?_
  clear hS
  rintro f w _ ⟨k, tv, h0, h11, h12, h13, hS, hk, rfl⟩
  refine seq ?_
  refine region ?_
  refine sv (yLss h13 h12) ?_
  refine nil ?_
  show Code.wp _ _ _ _ _
  refine seq ?_
  refine cond rfl (fun c14 => ?_) (fun c14 => ?_)
  ·
    simp only [BS, ne_eq] at c14
    have hkl : k < b.pols.length := by omega
    obtain ⟨bp, op, csp, hap, hlp, hcsp, hRp, -⟩ := sl_at hsp (plB_get (b := b) hkl)
    obtain ⟨rfl, -⟩ := hRp
    obtain ⟨p1, p2, p3, p4⟩ := plB_ok hok hkl
    have hl0 := hok.lv 0 (by omega)
    have hvk := volP_bd hok hf hv k hk
    have hfk := hf k hkl
    have htk := tkP_bd hok hf hv hkl
    obtain ⟨m1, m2, m3⟩ := take_m (x := plB b k) hok hvk.1 (by omega) ⟨by omega, by omega⟩ p2
    have hv00 := hok.vl 0 (by omega)
    have hd1 := (exD_bd hok (volP b l v0 k)).1
    obtain ⟨gf, cf2, hfe, -, -, -⟩ := row_some (hS.row (.slice af l.length cf)) (by omega)
    obtain ⟨rfl, -, rfl⟩ := slice_inj3 hfe
    have hmx := mixP_at (b := b) (v := v0) (show k < l.length by omega)
    refine skip ?_
    show Code.wp _ _ _ _ _
    refine seq ?_
    refine block ?_
    refine seq ?_
    refine region ?_
    refine sv (yMove h13) ?_
    refine sv (yIxa h11 hap h13 Tryz.runUnderlying83 Tryz.sizeOf204 (by omega) (by omega)) ?_
    refine sv (yLdA rfl Tryz.isAgg204 Tryz.sizeOf204 (hcsp.ext hS.ext) rfl) ?_
    refine salloc hS Tryz.zeroValue204 rfl ?_; clear hS; intro b4 w hS
    refine sv (yAsg rfl) ?_
    refine sst hS rfl rfl Tryz.sizeOf204 rfl rfl rfl rfl ?_; clear hS; intro w hS
    refine nil ?_
    show Code.wp _ _ _ _ _
    refine seq ?_
    refine region_draw mixed (by kernel_rfl) hS ?_
    refine qv (fun w hS => (yMove h0)) ?_
    refine qv (fun w hS => (yNil rfl)) ?_
    refine qv (fun w hS => (fa268_0 rfl)) ?_
    refine qv (fun w hS => (yLdBA rfl Tryz.isAgg85 Tryz.sizeOf85 (hS.at _) rfl rfl)) ?_
    refine qv (fun w hS => (yMove h0)) ?_
    refine qv (fun w hS => (yNil rfl)) ?_
    refine qv (fun w hS => (fa268_1 rfl)) ?_
    refine qv (fun w hS => (fa87_0 rfl)) ?_
    refine qv (fun w hS => (yLdB rfl Tryz.isAgg3 (hS.at _) rfl)) ?_
    refine qcall Tryz.call180 (.cons rfl (.cons rfl .nil)) (fun w hS => (c_exact (hb.ext hS.ext) hok ⟨hvk.1, by omega⟩)) ?_
    refine qv (fun w hS => (yIfaceG rfl Tryz.underlying273 rfl)) ?_
    refine qv (fun w hS => (yAsg rfl)) ?_
    clear hS; refine qnil (fun w hS => ?_)
    show Code.wp _ _ _ _ _
    refine seq ?_
    refine region ?_
    refine sv (yAsg rfl) ?_
    refine nil ?_
    show Code.wp _ _ _ _ _
    refine seqJ (n := 85) (fun f w => ∃ (nn : Int), f 0 = .pointer (some ⟨bw, 0, none⟩) ∧ f 3 = .int .i64 (k : Int) ∧ f 6 = .int .i64 nn ∧ f 11 = .slice ap b.pols.length cp ∧ f 12 = .int .i64 (b.pols.length : Int) ∧ f 13 = .int .i64 (k : Int) ∧ StX [] w0 w ((blk b4 (polC (plB b k)) 204 :: blk bw [.slice ar b.rows.length cr, .int .i64 b.leak, .int .i64 b.crest, .int .i64 b.over, .slice ap b.pols.length cp, .int .i64 (volP b l v0 k), .slice (some ⟨gf, 0, none⟩) l.length cf, .int .i64 t.outer, .int .i64 t.river, .int .i64 t.out, .int .i64 (R), .int .i64 (O), .int .i64 (K), .int .i64 (U), tv] 268 :: rowI (tv) 3 1 k ((tksP b l v0 k).flatMap Bx.encI) :: rowI (.slice (some ⟨gf, 0, none⟩) l.length cf) 3 1 l.length ((mixP b l v0 k).flatMap Bx.encI) :: L9)) ∧ (nn = tkP b l v0 k) ∧ True) ?_ ?_
    ·
      refine seq ?_
      refine region ?_
      refine sv (yMove rfl) ?_
      refine sv (fa204_1 rfl) ?_
      refine sv (yLdB rfl Tryz.isAgg3 (hS.at _) rfl) ?_
      refine sinv rfl (m_above _) (.cons rfl .nil) Tryz.call218 (c_above m1) ?_
      rintro _ w ⟨rfl, hE⟩; replace hS := hS.step hE; clear hE
      refine nil ?_
      show Code.wp _ _ _ _ _
      refine cond rfl (fun c32 => ?_) (fun c32 => ?_)
      ·
        simp only [BS, ne_eq] at c32
        refine region_draw mixed (by kernel_rfl) hS ?_
        refine qv (fun w hS => (yMove rfl)) ?_
        refine qv (fun w hS => (fa204_1 rfl)) ?_
        refine qv (fun w hS => (yLdB rfl Tryz.isAgg3 (hS.at _) rfl)) ?_
        refine qv (fun w hS => (fa204_2 rfl)) ?_
        refine qv (fun w hS => (yLdB rfl Tryz.isAgg3 (hS.at _) rfl)) ?_
        refine qinv rfl (m_over _) (.cons rfl (.cons rfl .nil)) Tryz.call219 (fun w hS => (c_over m1 m2 m3 (by omega))) ?_
        refine qv (fun w hS => (fa204_3 rfl)) ?_
        refine qv (fun w hS => (yLdB rfl Tryz.isAgg3 (hS.at _) rfl)) ?_
        refine qv (fun w hS => (yMove h0)) ?_
        refine qv (fun w hS => (yNil rfl)) ?_
        refine qv (fun w hS => (fa268_1 rfl)) ?_
        refine qv (fun w hS => (fa87_1 rfl)) ?_
        refine qv (fun w hS => (yLdB rfl Tryz.isAgg34 (hS.at _) rfl)) ?_
        refine qv (fun w hS => (yMove rfl)) ?_
        refine qv (fun w hS => (yIx0 (m := k) rfl rfl Tryz.runUnderlying34 Tryz.sizeOf3 (by omega))) ?_
        refine qv (fun w hS => (yLd rfl Tryz.isAgg3 ((flat_cells0 (enc := Bx.encI) encI_len (row_at (hS.row (.slice (some ⟨gf, 0, none⟩) l.length cf)) rfl (by omega)) hmx).one))) ?_
        refine qv (fun w hS => (ySub rfl rfl ⟨by omega, by omega⟩)) ?_
        refine qv (fun w hS => (yMin rfl rfl)) ?_
        refine qv (fun w hS => (yAsg rfl)) ?_
        clear hS; refine qnil (fun w hS => ?_)
        exact ⟨_, rfl, _, h0, rfl, rfl, h11, h12, h13, hS, (take_some (by omega)), trivial⟩
      ·
        simp only [BS, ne_eq] at c32
        refine skip ?_
        exact ⟨_, rfl, 0, h0, rfl, rfl, h11, h12, h13, hS, (take_none (by omega)), trivial⟩
    ·
      clear hS; rintro f w ⟨nn, h0, h3, h6, h11, h12, h13, hS, hnn, -⟩
      refine seq ?_
      refine region ?_
      subst hnn
      refine sv (yMove h0) ?_
      refine sv (yNil rfl) ?_
      refine sv (fa268_1 rfl) ?_
      refine sv (fa87_0 rfl) ?_
      refine sv (yLdB rfl Tryz.isAgg3 (hS.at _) rfl) ?_
      refine sv (yMove h6) ?_
      refine sv (ySub rfl rfl ⟨by omega, by omega⟩) ?_
      refine sv (yNil rfl) ?_
      refine sv (fa268_1 rfl) ?_
      refine sv (fa87_0 rfl) ?_
      refine sst hS rfl rfl Tryz.sizeOf3 rfl rfl rfl rfl ?_; clear hS; intro w hS
      refine nil ?_
      show Code.wp _ _ _ _ _
      refine seq ?_
      refine region ?_
      refine sv (yMove h0) ?_
      refine sv (yNil rfl) ?_
      refine sv (fa268_1 rfl) ?_
      refine sv (fa87_1 rfl) ?_
      refine sv (yLdB rfl Tryz.isAgg34 (hS.at _) rfl) ?_
      refine sv (yMove h3) ?_
      refine sv (yIx0 (m := k) rfl rfl Tryz.runUnderlying34 Tryz.sizeOf3 (by omega)) ?_
      refine sv (yLd rfl Tryz.isAgg3 ((flat_cells0 (enc := Bx.encI) encI_len (row_at (hS.row (.slice (some ⟨gf, 0, none⟩) l.length cf)) rfl (by omega)) hmx).one)) ?_
      refine sv (yMove h6) ?_
      refine sv (yAdd rfl rfl ⟨by omega, by omega⟩) ?_
      refine sv (yIx0 (m := k) rfl rfl Tryz.runUnderlying34 Tryz.sizeOf3 (by omega)) ?_
      refine srst (m := l.length) (cap := cf) (sz := 1) (vs := Bx.encI (flB l k + tkP b l v0 k)) hS rfl rfl Tryz.sizeOf3 rfl rfl (by omega) rfl ?_; clear hS; intro w hS
      rw [splice_enc encI_len _ _ _ (by rw [mixP_len (by omega)]; omega), mixP_set (by omega)] at hS
      refine nil ?_
      show Code.wp _ _ _ _ _
      refine region ?_
      refine sv (yMove h0) ?_
      refine sv (yMove h0) ?_
      refine sv (yNil rfl) ?_
      refine sv (fa268_3 rfl) ?_
      refine sv (fa172_4 rfl) ?_
      refine sv (yLdB rfl Tryz.isAgg34 (hS.at _) rfl) ?_
      refine sv (yMove h6) ?_
      refine sbslice hS Tryz.underlying34 Tryz.sizeOf3 rfl Tryz.zeroValue3 rfl (.cons rfl rfl .nil) rfl ?_; clear hS; intro b79 w hS
      refine sapp (bytes := 8) (size := 1) (v := tv) (m := 1) hS rfl rfl Tryz.underlying34 ti3 rfl rfl rfl rfl (by decide) (blk_cells (hS.at _)) rfl rfl (by omega) (by omega) ?_; clear hS; intro v80 w hS
      refine sv (yNil rfl) ?_
      refine sv (fa268_3 rfl) ?_
      refine sv (fa172_4 rfl) ?_
      obtain ⟨a80, c80, rfl⟩ := row_shape (hS.row v80)
      refine sst hS rfl rfl Tryz.sizeOf34 rfl rfl rfl rfl ?_; clear hS; intro w hS
      refine nil ?_
      show Code.wp _ _ _ _ _
      refine region ?_
      refine sv (yAdd h13 rfl ⟨by omega, by omega⟩) ?_
      refine sv (yMove rfl) ?_
      refine nil ?_
      exact ⟨_, _, rfl, ⟨k + 1, _, h0, h11, h12, rfl, (by rw [tksP_succ, List.flatMap_append]; exact hS.sub (.cons _ (.cons _ (List.Sublist.refl _)))), (by omega), rfl⟩, by omega⟩
  ·
    simp only [BS, ne_eq] at c14
    obtain rfl : k = b.pols.length := by omega
    refine exit ?_
    show Code.wp _ _ _ _ _
    refine seq ?_
    refine region ?_
    refine sv (yAsg rfl) ?_
    refine nil ?_
    show Code.wp _ _ _ _ _
    refine wp_ret ?_
    refine retQ (res1 rfl rfl) ?_
    exact ⟨rfl, _, hS⟩
end Go.Proofs.YtmoilbakmlekbaaGreatDoor

/- part A38 -/
namespace Bx
open Go Go.RowKit
theorem yIdxA {P : Program} {ρ : Operand → Value} {w : World} {ty : TypeId} {T e : TypeId} {x i : Operand} {len : Nat} {vs : List Value} {v : Value} {m : Int} (hx : ρ x = .agg vs.toArray) (hi : ρ i = .int .i64 m) (hu : P.underlying T = some (.array len e)) (hs : ∀ w, (Go.sizeOf e).run P w = .ok 1 w) (ha : ∀ w, (isAgg e).run P w = .ok false w)
    (h0 : 0 ≤ m) (h1 : m < len) (hv : vs[m.toNat]? = some v) : Y P ρ (.index T x i) ty w v w := by
  have hv2 : vs.toArray[m.toNat * 1]? = some v := by rw [Nat.mul_one]; simpa using hv
  simp [Y, xop, execOp, hx, hi, Instr.index, run_underlying hu, asIntOf, h0, h1, hs, ha, part, hv2]
  all_goals (simp [List.getElem?_eq_some_iff] at hv; obtain ⟨hlt, he⟩ := hv; simp [hlt, he])
theorem yBuildA {P : Program} {ρ : Operand → Value} {w : World} {ty : TypeId} {T E : TypeId} {n sz : Nat} {ps : List (Nat × Operand)} {z : Value} {zs r : List Value} {vs : List (Nat × List Value)} (hz : ∀ w, (zeroValue T).run P w = .ok z w) (hzs : z.cells.toList = zs)
    (hu : P.underlying T = some (.array n E)) (hs : ∀ w, (Go.sizeOf E).run P w = .ok sz w) (hv : PartsAre ρ ps vs) (hf : fillL (fun i => some (i * sz, sz)) zs vs = some r) : Y P ρ (.build T ps.toArray) ty w (.agg r.toArray) w := by
  have h := fill_eq (fun i => some (i * sz, sz)) ((ps.toArray.map fun (i, x) => (i, ρ x)).toList) z.cells r (by rw [map_parts, hv, hzs]; exact hf)
  simp only [Y, xop, execOp, Instr.build, Sem.run_bind, hz, Result.andThen_ok, run_underlying hu, hs, h]
  rfl
section
variable (b : Bas) (s : BSt) (t : BTk)
def vK : Nat → Int
  | 0 => s.volume | 1 => v1B s t | 2 => v2B b s t | 3 => v3B b s t | 4 => v4B b s t | _ => volP b s.filled (v4B b s t) b.pols.length
def rK : Nat → Int
  | 0 => 0 | _ => t.river
def oK : Nat → Int
  | 0 => 0 | 1 => 0 | _ => ovB b t
def lK : Nat → Int
  | 0 => 0 | 1 => 0 | 2 => 0 | _ => lkB b s t
def uK : Nat → Int
  | 0 => 0 | 1 => 0 | 2 => 0 | 3 => 0 | _ => outV b s t
def tK : Nat → List Int
  | 0 => [] | 1 => [] | 2 => [] | 3 => [] | 4 => [] | _ => tksP b s.filled (v4B b s t) b.pols.length
def fK : Nat → List Int
  | 0 => s.filled | 1 => s.filled | 2 => s.filled | 3 => s.filled | 4 => s.filled | _ => filP b s.filled (v4B b s t) b.pols.length
def gK : Nat → Bool
  | 0 => !decide (1000000000 < v1B s t) | 1 => !decide (1000000000 < v2B b s t) | 2 => !decide (1000000000 < v3B b s t) | _ => true
end
def fnK (a b c d e : Nat) : Nat → Nat
  | 0 => a | 1 => b | 2 => c | 3 => d | _ => e
theorem stepE_bad {b : Bas} {s : BSt} {t : BTk} (h : tkBad t = true) : stepE b s t = 7 := if_pos h
theorem stepE_long {b : Bas} {s : BSt} {t : BTk} {k : Nat} (h : tkBad t = false) (hk : k < 5) (hg : gK b s t k = false) : stepE b s t = 3 := by
  unfold stepE
  rw [if_neg (by rw [h]; decide)]
  rcases k with _ | _ | _ | k
  · rw [if_pos (by simpa [gK] using hg)]
  · split
    · rfl
    · rw [if_pos (by simpa [gK] using hg)]
  · split
    · rfl
    · split
      · rfl
      · rw [if_pos (by simpa [gK] using hg)]
  · simp [gK] at hg
theorem stepE_fine {b : Bas} {s : BSt} {t : BTk} (h : tkBad t = false) (hg : ∀ j, j < 5 → gK b s t j = true) : stepE b s t = 0 := by
  unfold stepE
  rw [if_neg (by rw [h]; decide), if_neg (by simpa [gK] using hg 0 (by omega)), if_neg (by simpa [gK] using hg 1 (by omega)), if_neg (by simpa [gK] using hg 2 (by omega))]
theorem gK_ok {b : Bas} {s : BSt} {t : BTk} (hg : ∀ j, j < 3 → gK b s t j = true) : v1B s t ≤ 1000000000 ∧ v2B b s t ≤ 1000000000 ∧ v3B b s t ≤ 1000000000 :=
  ⟨by simpa [gK] using hg 0 (by omega), by simpa [gK] using hg 1 (by omega), by simpa [gK] using hg 2 (by omega)⟩
theorem gK_1 {b : Bas} {s : BSt} {t : BTk} (h : gK b s t 1 = true) : v2B b s t ≤ 1000000000 := by simpa [gK] using h
theorem gK_2 {b : Bas} {s : BSt} {t : BTk} (h : gK b s t 2 = true) : v3B b s t ≤ 1000000000 := by simpa [gK] using h
end Bx
namespace Bx
open Go Go.RowKit
def RBfl (w : World) (cs : List Value) (x : BFl) : Prop := ∃ tv, cs = [.int .i64 x.river, .int .i64 x.over, .int .i64 x.leak, .int .i64 x.out, tv] ∧ Sl w 1 RInt tv x.taken
theorem RBfl.stays : Stays RBfl := fun _ _ _ _ e ⟨fv, h1, h2⟩ => ⟨fv, h1, h2.ext RInt.stays e⟩
theorem front_perm {S : List Nat} {w0 w : World} {a c x : Item} {L : List Item} (h : StX S w0 w (x :: a :: c :: L)) : StX S w0 w (a :: x :: c :: L) := h.perm (List.Perm.swap _ _ _)
section
variable {b : Bas} {s : BSt} {t : BTk} (hb : BasOk b) (hs : BstOk b s) (ht : TkOk t) (hg : ∀ j, j < 5 → gK b s t j = true)
include hb hs ht hg
theorem step_st1 {w : World} {fv : Value} (h : w.ownsRow 0 3 1 fv s.filled.length ((fK b s t 5).flatMap encI)) : RBst w [.int .i64 (vK b s t 5), fv] (stepS b s t) := by
  obtain ⟨g1, g2, g3⟩ := gK_ok (fun j hj => hg j (by omega))
  have ho := step_st hb hs ht g2 g3
  have hv := hb.vl 0 (by have := hb.len; omega)
  have h1 := ho.vol
  have hlen : (stepS b s t).filled.length = s.filled.length := ho.len.trans hs.len.symm
  refine ⟨fv, rfl, by constructor <;> omega, sl_ints h (by show (filP _ _ _ _).length = _; rw [filP_len, hs.len]) (fun x hx => ?_), ?_⟩
  · obtain ⟨i, hi, rfl⟩ := List.mem_map.1 (show x ∈ filP b s.filled (v4B b s t) b.pols.length from hx)
    have hi := List.mem_range.1 hi
    have k1 := hs.fil i hi
    have k2 := tkP_bd hb hs.fil (v4_bd hb hs ht g2 g3) hi
    have k3 := (plB_ok hb hi).2.2.1
    constructor <;> omega
  · have := hb.npol
    show _ * 8 ≤ 140737488351232
    rw [hlen, hs.len]; omega
theorem step_fl1 {w : World} {tv : Value} (h : w.ownsRow 0 3 1 tv (tK b s t 5).length ((tK b s t 5).flatMap encI)) : RBfl w [.int .i64 (rK t 5), .int .i64 (oK b t 5), .int .i64 (lK b s t 5), .int .i64 (uK b s t 5), tv] (stepF b s t) := by
  obtain ⟨g1, g2, g3⟩ := gK_ok (fun j hj => hg j (by omega))
  refine ⟨tv, rfl, sl_ints h rfl (fun x hx => ?_)⟩
  obtain ⟨i, hi, rfl⟩ := List.mem_map.1 (show x ∈ tksP b s.filled (v4B b s t) b.pols.length from hx)
  have hi := List.mem_range.1 hi
  have k2 := tkP_bd hb hs.fil (v4_bd hb hs ht g2 g3) hi
  have k3 := (plB_ok hb hi).2.2.1
  have k1 := hs.fil i hi
  constructor <;> omega
end
end Bx

/- part LibB4 -/
namespace Bx
open Go Go.RowKit
/-- The contract of an iterator that makes what it yields: T tr M: after the trace tr the items M belong to what was yielded; Z: the trace is a whole one. -/
def ItG {α : Type} (P : Program) (g : FuncId) (cl : List Value) (w0 : World) (R : List Item) (enc : α → List Value) (T Z : List α → List Item → Prop) : Prop :=
  ∀ (l : Nat) (Cb : Bool → List α → List Item → Prop) (w : World) (L : List Item),
    (∀ pre x w L M, T (pre ++ [x]) M → Cb true pre L → StX [] w0 w (M ++ L) → YieldIn P l (enc x) w fun v w' => ∃ b L', v = .bool b ∧ Cb b (pre ++ [x]) L' ∧ StX [] w0 w' (M ++ L')) →
    Cb true [] L → StX [] w0 w (R ++ L) → CE P g (.func (.yield l) #[] #[] :: cl).toArray w fun _ w' => ∃ xs M L', StX [] w0 w' (M ++ L') ∧ ((Z xs M ∧ Cb true xs L') ∨ (T xs M ∧ Cb false xs L'))
section
variable {P : Program} {Q : Exit → Act → World → Prop} {n : Nat} {f : Fr} {w : World}
theorem rangeG {α : Type} {ds : List Deferred} {enc : α → List Value} {T Z : List α → List Item → Prop} {w0 : World} {R L0 : List Item} {g : Operand} {gf : FuncId} {cl : List Value} {ps : List Nat} {assign body : Code} [hnQ : NoOut Q]
    (hg : ev n f g = .func (.func gf) #[] cl.toArray) (eg : ∀ ars w, (callFunc gf ars).run P w = .ok (.enter gf ars) w)
    (hS : StX [] w0 w (R ++ L0)) (hit : ItG P gf cl w0 R enc T Z)
    (Cb : Option Code → List α → List Item → Prop) (h0 : Cb none [] L0) (hps : ∀ x, (enc x).length = ps.length)
    (hround : ∀ l pre x w L M M0, T (pre ++ [x]) M0 → (∀ it ∈ M0, it ∈ M) → Cb none pre L → StX [] w0 w (L ++ M) →
      assign.wpIn (FX (some l)) 0 P (APost fun a w₁ => ∃ f' L', a = mkd n f' [] ∧ StX [] w0 w₁ (L' ++ M) ∧ ∀ M' w₂, (∀ it ∈ M0, it ∈ M') → StX [] w0 w₂ (L' ++ M') → body.wpIn (FX (some l)) 0 P (RPost w0 (fun c => Cb c (pre ++ [x])) M') (mkd n f' []) w₂) (mkd n (updz ps (enc x) f) []) w)
    (hdone : ∀ D w L xs M, Z xs M → Cb none xs L → StX [] w0 w (obj D (.deferred (some [])) :: (M ++ L)) → Q .normal (mkd n f (coll D :: ds)) w)
    (hstop : ∀ D w L c pre M, T pre M → Cb (some c) pre L → StX [] w0 w (obj D (.deferred (some [])) :: (M ++ L)) → c.wpIn (FX none) 0 P Q (mkd n f (coll D :: ds)) w) :
    (Code.rangeFunc g ps.toArray assign body).wpIn (FX none) 0 P Q (mkd n f ds) w := by
  refine wpIn_rangeFunc ?_
  intro fn hfn
  show ∃ _, _
  obtain ⟨rec, hrec⟩ : ∃ rec : LoopState → Option Code → Loop, rec = fun st pe => { state := st, pending := pe, fn, tmps := (mkd n f ds).tmps, params := ps.toArray, assign, body, defers := w.heap.size } := ⟨_, rfl⟩
  obtain ⟨W1, hW1⟩ : ∃ W1, (w.alloc (.deferred (some []))).alloc (.loop (rec .ready none)) = W1 := ⟨_, rfl⟩
  obtain ⟨l, hl⟩ : ∃ l, l = w.heap.size + 1 := ⟨_, rfl⟩
  obtain ⟨D, hD⟩ : ∃ D, D = w.heap.size := ⟨_, rfl⟩
  have hS1 : StX [] w0 W1 (obj l (.loop (rec .ready none)) :: obj D (.deferred (some [])) :: (R ++ L0)) := by
    have e1 := hS.call1 (St.new w (.deferred (some [])))
    have e2 := e1.call1 (St.new (w.alloc (.deferred (some []))) (.loop (rec .ready none)))
    rw [World.size_alloc] at e2
    rw [← hW1, hl, hD]
    exact e2
  have hS2 : StX [] w0 W1 (R ++ (obj l (.loop (rec .ready none)) :: obj D (.deferred (some [])) :: L0)) := hS1.perm (perm3 _ _ _ _).symm
  refine ⟨l, [coll D], W1, { target := .fn (.func gf) cl.toArray, args := #[.func (.yield l) #[] #[]] }, W1, gf, (.func (.yield l) #[] #[] :: cl).toArray, W1, ?_, ?_, fun _ _ => trivial, ?_, fun h => (by cases h), ?_⟩
  · rw [← hW1, hrec, hl, hD]
    exact run_enterLoop_outer _ _ _ _ _
  · have hg' : (mkd n f ds).eval g = .func (.func gf) #[] cl.toArray := by rw [wD_eval, mk_eval, hg]
    simp only [resolve, hg']
    simp [go_sem]
  · simp only [invoke, eg]
    simp
  · let Cb' : Bool → List α → List Item → Prop := fun b pre LL => ∃ c L, b = c.isNone ∧ LL = obj l (.loop (rec (if c.isNone then .ready else .done) c)) :: obj D (.deferred (some [])) :: L ∧ Cb c pre L
    refine CallsIn.mono (calls_in (hit l Cb' W1 _ ?_ ⟨none, L0, rfl, rfl, h0⟩ hS2)) ?_
    · rintro pre x w L M hpre ⟨c, L, hc, rfl, hcb⟩ hSt
      obtain rfl : c = none := by cases c with | none => rfl | some c => exact absurd hc (by simp)
      have hSt' : StX [] w0 w (obj l (.loop (rec .ready none)) :: obj D (.deferred (some [])) :: (M ++ L)) := hSt.perm (perm3 _ _ _ _)
      have hl0 := hSt'.at l (o := .loop (rec .ready none))
      have hy := run_yield (P := P) (args := (enc x).toArray) hl0 (by rw [hrec]; simp [hps x])
      rw [hrec] at hy
      have ht : (ps.toArray.zip (enc x).toArray).foldl (fun tmps (p : Nat × Value) => tmps.setIfInBounds p.1 p.2) (mkd n f ds).tmps = (mk n (updz ps (enc x) f)).tmps := by
        rw [List.zip_toArray, List.foldl_toArray]
        exact foldl_updz n ps (enc x) f
      have ht' : (ps.toArray.zip (enc x).toArray).foldl (fun tmps (t, a) => tmps.setIfInBounds t a) (mkd n f ds).tmps = (mk n (updz ps (enc x) f)).tmps := ht
      simp only [ht'] at hy
      refine ⟨fn, _, assign, body, hy, roundIn_of_wpIn hfn ?_⟩
      have hStM : StX [] w0 w (L ++ (obj l (.loop (rec .ready none)) :: obj D (.deferred (some [])) :: M)) := hSt'.perm (((List.perm_append_comm (l₁ := M) (l₂ := L)).cons _).cons _ |>.trans (perm3 _ _ _ _).symm)
      refine wpIn_mono (hround l pre x w L _ M hpre (fun it hit => List.mem_cons_of_mem _ (List.mem_cons_of_mem _ hit)) hcb hStM) ?_
      intro e a1 w1 hp
      cases e with
      | normal =>
        obtain ⟨f', L', rfl, hS3, hbody⟩ := hp
        have hS3' : StX [] w0 w1 (obj l (.loop (rec .ready none)) :: obj D (.deferred (some [])) :: (L' ++ M)) := hS3.perm (perm3 _ _ _ _)
        have hl1 := hS3'.at l (o := .loop (rec .ready none))
        refine ⟨_, run_beginRound hl1 (by rw [hrec]), ?_⟩
        have hS4 : StX [] w0 (w1.putObj l (.loop { rec .ready none with state := .busy })) (obj l (.loop { rec .ready none with state := .busy }) :: obj D (.deferred (some [])) :: (L' ++ M)) := hS3'.put (put_obj hl1)
        refine wpIn_mono (hbody _ _ (fun it hit => List.mem_cons_of_mem _ (List.mem_cons_of_mem _ hit)) (hS4.perm (perm3 _ _ _ _).symm)) ?_
        have fin : ∀ (c : Option Code) (w2 : World) (L2 : List Item), Cb c (pre ++ [x]) L2 → StX [] w0 w2 (L2 ++ (obj l (.loop { rec .ready none with state := .busy }) :: obj D (.deferred (some [])) :: M)) →
            ∃ v w', (Instr.endRound l c).run P w2 = .ok v w' ∧ ∃ u, Ending.returned v = .returned u ∧ ∃ b L', u = .bool b ∧ Cb' b (pre ++ [x]) L' ∧ StX [] w0 w' (M ++ L') := by
          intro c w2 L2 hc2 hS5
          have hS5' := hS5.perm (perm3 _ _ _ _)
          have hl2 := hS5'.at l (o := .loop { rec .ready none with state := .busy })
          have he := run_endRound (P := P) c hl2
          refine ⟨_, _, he, _, rfl, _, _, rfl, ⟨c, L2, rfl, rfl, hc2⟩, ?_⟩
          have hS6 : StX [] w0 (w2.putObj l (.loop { { rec .ready none with state := .busy } with state := if c.isNone then .ready else .done, pending := c })) (obj l (.loop { { rec .ready none with state := .busy } with state := if c.isNone then .ready else .done, pending := c }) :: obj D (.deferred (some [])) :: (L2 ++ M)) := hS5'.put (put_obj hl2)
          have hr : ({ { rec .ready none with state := .busy } with state := if c.isNone then .ready else .done, pending := c } : Loop) = rec (if c.isNone then .ready else .done) c := by rw [hrec]
          rw [hr] at hS6 ⊢
          exact hS6.perm (((List.perm_append_comm (l₁ := L2) (l₂ := M)).cons _).cons _ |>.trans (perm3 _ _ _ _).symm)
        intro e a2 w2 hp2
        cases e with
        | normal => obtain ⟨L2, hc2, hS5⟩ := hp2; exact fin none w2 L2 hc2 hS5
        | ret => obtain ⟨L2, hc2, hS5⟩ := hp2; exact fin _ w2 L2 hc2 hS5
        | exit id => obtain ⟨L2, hc2, hS5⟩ := hp2; exact fin _ w2 L2 hc2 hS5
        | goto t => obtain ⟨L2, hc2, hS5⟩ := hp2; exact fin _ w2 L2 hc2 hS5
        | panic c => exact hp2.elim
        | outgrown => exact hp2.elim
      | _ => exact hp.elim
    · rintro e w3 ⟨v, rfl, xs, M, LL, hS7, hcb⟩
      have key : ∀ (c : Option Code) (L : List Item), StX [] w0 w3 (obj l (.loop (rec (if c.isNone then .ready else .done) c)) :: obj D (.deferred (some [])) :: L) →
          ∃ w4, (Instr.endLoop l).run P w3 = .ok c w4 ∧ StX [] w0 w4 (obj D (.deferred (some [])) :: L) := by
        intro c L hS8
        have hl3 := hS8.at l (o := .loop (rec (if c.isNone then .ready else .done) c))
        have he := run_endLoop (P := P) hl3 (by rw [hrec]; cases c <;> simp)
        have hp : (rec (if c.isNone then .ready else .done) c).pending = c := by rw [hrec]
        refine ⟨_, he.trans (congrArg (fun p => Result.ok p _) hp), ?_⟩
        have hS9 : StX [] w0 _ (obj l (.loop { rec (if c.isNone then .ready else .done) c with state := .exhausted }) :: obj D (.deferred (some [])) :: L) := hS8.put (put_obj (o' := .loop { rec (if c.isNone then .ready else .done) c with state := .exhausted }) hl3)
        exact hS9.sub (List.sublist_cons_self _ _)
      have mv : ∀ (c : Option Code) (L : List Item), StX [] w0 w3 (M ++ (obj l (.loop (rec (if c.isNone then .ready else .done) c)) :: obj D (.deferred (some [])) :: L)) → StX [] w0 w3 (obj l (.loop (rec (if c.isNone then .ready else .done) c)) :: obj D (.deferred (some [])) :: (M ++ L)) := fun c L h => h.perm (perm3 _ _ _ _)
      rcases hcb with ⟨hz, c, L, hc, rfl, hcb⟩ | ⟨ht, c, L, hc, rfl, hcb⟩
      · obtain rfl : c = none := by cases c with | none => rfl | some c => exact absurd hc (by simp)
        obtain ⟨w4, he, hS9⟩ := key none _ (mv none L hS7)
        exact ⟨none, w4, he, hdone D w4 L xs M hz hcb hS9⟩
      · cases c with
        | none => simp at hc
        | some c =>
          obtain ⟨w4, he, hS9⟩ := key (some c) _ (mv (some c) L hS7)
          exact ⟨some c, w4, he, hstop D w4 L c xs M ht hcb hS9⟩
end
end Bx

/- part A39 -/
namespace Bx
open Go Go.RowKit
def flC (x : BFl) (tv : Value) : List Value := [.int .i64 x.river, .int .i64 x.over, .int .i64 x.leak, .int .i64 x.out, tv]
def RMom (w : World) (cs : List Value) (x : BSt × BFl) : Prop := ∃ fv tv, cs = .int .i64 x.1.volume :: fv :: flC x.2 tv ∧ RBst w [.int .i64 x.1.volume, fv] x.1 ∧ RBfl w (flC x.2 tv) x.2
theorem RMom.stays : Stays RMom := fun _ _ _ _ e ⟨fv, tv, h1, h2, h3⟩ => ⟨fv, tv, h1, RBst.stays _ _ _ _ e h2, RBfl.stays _ _ _ _ e h3⟩
abbrev Mom := List Value × Value
def momC (x : Mom) : List Value := [.agg x.1.toArray, x.2]
section
variable (b : Bas) (s : BSt) (l : List BTk)
def momN (k : Nat) : BSt × BFl := (stN b s l (k + 1), flN b s l k)
def momL : List (BSt × BFl) := (List.range l.length).map (momN b s l)
theorem momL_len : (momL b s l).length = l.length := by simp [momL]
theorem momL_get {k : Nat} (h : k < l.length) : (momL b s l)[k]? = some (momN b s l k) := by simp [momL, h]
/-- A trace of moments, none of which is an error. -/
def OkTr (w : World) (tr : List Mom) : Prop := tr.length ≤ l.length ∧ ∀ i, i < tr.length → errN b s l i = 0 ∧ ∃ cs, tr[i]? = some (cs, .nilIface) ∧ RMom w cs (momN b s l i)
def zMom : List Value := [.int .i64 0, .slice none 0 0, .int .i64 0, .int .i64 0, .int .i64 0, .int .i64 0, .slice none 0 0]
def ErTr (TI TE : TypeId) (w : World) (tr : List Mom) : Prop := ∃ pre bE, tr = pre ++ [(zMom, .iface TI (.pointer (some ⟨bE, 0, none⟩)))] ∧ OkTr b s l w pre ∧ pre.length < l.length ∧ errN b s l pre.length ≠ 0 ∧ w.heap[bE]? = some (.cells [.int .i64 (pre.length : Int), .int .i64 (errN b s l pre.length)].toArray TE (0, 0))
def TrB (TI TE : TypeId) (w0 : World) (tr : List Mom) (M : List Item) : Prop := ∀ w, Ext w0 w → (∀ it ∈ M, it.ok w) → OkTr b s l w tr ∨ ErTr b s l TI TE w tr
def ZrB (TI TE : TypeId) (w0 : World) (tr : List Mom) (M : List Item) : Prop := ∀ w, Ext w0 w → (∀ it ∈ M, it.ok w) → (OkTr b s l w tr ∧ tr.length = l.length) ∨ ErTr b s l TI TE w tr
end
section
variable {b : Bas} {s : BSt} {l : List BTk}
theorem OkTr.nil {w : World} : OkTr b s l w [] := ⟨Nat.zero_le _, fun i hi => absurd hi (Nat.not_lt_zero i)⟩
theorem OkTr.ext {w w' : World} {tr : List Mom} (h : OkTr b s l w tr) (e : Ext w w') : OkTr b s l w' tr := ⟨h.1, fun i hi => by
  obtain ⟨h1, cs, h2, h3⟩ := h.2 i hi
  exact ⟨h1, cs, h2, RMom.stays _ _ _ _ e h3⟩⟩
theorem OkTr.snoc {w : World} {tr : List Mom} {cs : List Value} (h : OkTr b s l w tr) (hl : tr.length < l.length) (he : errN b s l tr.length = 0) (hR : RMom w cs (momN b s l tr.length)) : OkTr b s l w (tr ++ [(cs, .nilIface)]) := by
  refine ⟨by simp; omega, fun i hi => ?_⟩
  by_cases hn : i < tr.length
  · obtain ⟨h1, c, h2, h3⟩ := h.2 i hn
    exact ⟨h1, c, by rw [List.getElem?_append_left hn]; exact h2, h3⟩
  · obtain rfl : i = tr.length := by simp at hi; omega
    exact ⟨he, cs, by simp, hR⟩
theorem OkTr.nils {w : World} {tr : List Mom} (h : OkTr b s l w tr) : ∀ x ∈ tr, x.2 = .nilIface := fun x hx => by
  obtain ⟨i, hi, e⟩ := List.getElem_of_mem hx
  obtain ⟨-, cs, h2, -⟩ := h.2 i hi
  rw [List.getElem?_eq_getElem hi, e] at h2
  cases h2; rfl
/-- The rows of the moments of a whole trace. -/
theorem OkTr.rows {w : World} : ∀ (tr : List Mom) (k : Nat), (∀ i, i < tr.length → ∃ cs, tr[i]? = some (cs, .nilIface) ∧ RMom w cs (momN b s l (k + i))) → Rows w 7 RMom (tr.map (·.1)) ((List.range tr.length).map fun i => momN b s l (k + i))
  | [], _, _ => trivial
  | x :: tr, k, h => by
    obtain ⟨cs, h1, h2⟩ := h 0 (by simp)
    simp at h1
    subst h1
    rw [List.length_cons, List.range_succ_eq_map, List.map_cons, List.map_cons, List.map_map]
    refine ⟨?_, h2, ?_⟩
    · obtain ⟨fv, tv, rfl, -, -⟩ := h2; rfl
    · have := OkTr.rows tr (k + 1) (fun i hi => by obtain ⟨c, e1, e2⟩ := h (i + 1) (by simp; omega); exact ⟨c, by simpa using e1, by rw [show k + 1 + i = k + (i + 1) by omega]; exact e2⟩)
      have e : (fun i => momN b s l (k + 1 + i)) = ((fun i => momN b s l (k + i)) ∘ Nat.succ) := funext fun i => by show momN b s l _ = momN b s l _; congr 1; simp; omega
      rw [e] at this
      exact this
theorem OkTr.all {w : World} {tr : List Mom} (h : OkTr b s l w tr) (hl : tr.length = l.length) : Rows w 7 RMom (tr.map (·.1)) (momL b s l) := by
  have := OkTr.rows (b := b) (s := s) (l := l) (w := w) tr 0 (fun i hi => by obtain ⟨-, cs, h2, h3⟩ := h.2 i hi; exact ⟨cs, h2, by rw [Nat.zero_add]; exact h3⟩)
  unfold momL
  rw [← hl]
  simpa using this
theorem firstN_none {f : Nat → Int} : ∀ {m k : Nat}, (∀ i, k ≤ i → i < k + m → f i = 0) → firstN f m k = (0, 0)
  | 0, _, _ => rfl
  | m + 1, k, h => by rw [firstN_step (h k (Nat.le_refl _) (by omega))]; exact firstN_none fun i h1 h2 => h i (by omega) (by omega)
theorem firstN_at {f : Nat → Int} : ∀ {m k j : Nat}, (∀ i, k ≤ i → i < k + j → f i = 0) → j < m → f (k + j) ≠ 0 → firstN f m k = (((k + j : Nat) : Int), f (k + j))
  | 0, _, _, _, h, _ => absurd h (Nat.not_lt_zero _)
  | m + 1, k, 0, _, _, h0 => firstN_hit (f := f) (m := m) (k := k) h0
  | m + 1, k, j + 1, h, hj, h0 => by
    rw [firstN_step (h k (Nat.le_refl _) (by omega)), firstN_at (j := j) (fun i h1 h2 => h i (by omega) (by omega)) (by omega) (by rw [show k + 1 + j = k + (j + 1) by omega]; exact h0), show k + 1 + j = k + (j + 1) by omega]
theorem OkTr.err {w : World} {tr : List Mom} (h : OkTr b s l w tr) (hl : tr.length = l.length) : (firstN (errN b s l) l.length 0).2 = 0 := by
  rw [firstN_none fun i _ hi => (h.2 i (by omega)).1]
theorem ErTr.err {TI TE : TypeId} {w : World} {tr : List Mom} (h : ErTr b s l TI TE w tr) : ∃ (k : Nat) (bE : Nat) (pre : List Mom), tr = pre ++ [(zMom, .iface TI (.pointer (some ⟨bE, 0, none⟩)))] ∧ firstN (errN b s l) l.length 0 = ((k : Int), errN b s l k) ∧ errN b s l k ≠ 0 ∧ w.heap[bE]? = some (.cells [.int .i64 (k : Int), .int .i64 (errN b s l k)].toArray TE (0, 0)) := by
  obtain ⟨pre, bE, h1, h2, h3, h4, h5⟩ := h
  refine ⟨pre.length, bE, pre, h1, ?_, h4, h5⟩
  have := firstN_at (f := errN b s l) (k := 0) (j := pre.length) (m := l.length) (fun i _ hi => (h2.2 i (by omega)).1) h3 (by rw [Nat.zero_add]; exact h4)
  rw [Nat.zero_add] at this
  exact this
end
def notNil : Value → Bool
  | .nilIface => false
  | _ => true
theorem yNeNil {P : Program} {ρ : Operand → Value} {w : World} {ty : TypeId} {t t' : TypeId} {ms : _} {x : Operand} {v : Value} (hx : ρ x = v) (hy : ρ (.const .nilIface) = .nilIface) (ht : P.underlying t = some (.interface ms)) (hv : v = .nilIface ∨ ∃ T p, v = .iface T (.pointer p)) : Y P ρ (.binOp .neq t x (.const .nilIface) t') ty w (.bool (notNil v)) w := by
  have h : ∀ d : Nat, (Op.equalIn (d + 1) t v .nilIface).run P w = .ok (!notNil v) w := fun d => by
    rcases hv with rfl | ⟨T, p, rfl⟩ <;> simp [Op.equalIn, run_underlying ht, notNil]
  have h2 : (binOp .neq t v .nilIface).run P w = .ok (.bool (notNil v)) w := by
    have h1 := h 9999
    rcases hv with rfl | ⟨T, p, rfl⟩ <;> (simp only [binOp]; simp [Op.equal, Op.maxDepth, h1, notNil])
  rcases hv with rfl | ⟨T, p, rfl⟩ <;> simp [Y, xop, execOp, hx, hy, eqGuard, h2]
end Bx
namespace Bx
open Go Go.RowKit
theorem pack3 {S : List Nat} {w0 w : World} {a b c : Item} {L : List Item} (h : StX S w0 w (a :: b :: c :: L)) : StX S w0 w (a :: b :: c :: packI [] :: L) :=
  (StX.pack (M := []) h).perm (List.perm_middle (l₁ := [a, b, c]) (l₂ := L)).symm
theorem repack3 {S : List Nat} {w0 w : World} {x y it z a b c : Item} {Hs L : List Item} (h : StX S w0 w (x :: y :: it :: z :: a :: b :: c :: packI Hs :: L)) : StX S w0 w (a :: b :: c :: packI (Hs ++ [it]) :: L) := by
  have h1 : StX S w0 w (it :: a :: b :: c :: packI Hs :: L) := h.sub (.cons _ (.cons _ (.cons_cons _ (.cons _ (List.Sublist.refl _)))))
  have h2 : StX S w0 w (it :: packI Hs :: a :: b :: c :: L) := h1.perm ((List.perm_middle (l₁ := [a, b, c]) (l₂ := L)).cons it)
  exact h2.packs.perm (List.perm_middle (l₁ := [a, b, c]) (l₂ := L)).symm
end Bx

/- part Aw53 -/
namespace Go.Proofs.YtmoilbakmlekbaaGreatDoor
open Go Bx
set_option maxHeartbeats 1000000 in
theorem c_do {b : Bas} {s : BSt} {t : BTk} {ar ap af : Option Addr} {cr cp cf bw : Nat} {w0 : World} (ht : TkOk t) (hok : BasOk b) (hso : BstOk b s) (hb : RBas w0 [.slice ar b.rows.length cr, .int .i64 b.leak, .int .i64 b.crest, .int .i64 b.over, .slice ap b.pols.length cp] b) :
    ∀ (k : Nat) (tv : Value) (w : World) (L9 : List Bx.Item), k < 5 → tv = .slice none 0 0 → (∀ j, j < k → gK b s t j = true) → StX [] w0 w (blk bw [.slice ar b.rows.length cr, .int .i64 b.leak, .int .i64 b.crest, .int .i64 b.over, .slice ap b.pols.length cp, .int .i64 (vK b s t k), .slice af s.filled.length cf, .int .i64 t.outer, .int .i64 t.river, .int .i64 t.out, .int .i64 (rK t k), .int .i64 (oK b t k), .int .i64 (lK b s t k), .int .i64 (uK b s t k), tv] 268 :: rowI (tv) 3 1 (tK b s t k).length ((tK b s t k).flatMap Bx.encI) :: rowI (.slice af s.filled.length cf) 3 1 s.filled.length ((fK b s t k).flatMap Bx.encI) :: L9) → CE Tryz.prog (fnK 172 173 174 175 176 k) #[.pointer (some ⟨bw, 0, none⟩)] w (fun u w' => u = .bool (gK b s t k) ∧ ∃ tv', (k + 1 < 5 → tv' = .slice none 0 0) ∧ StX [] w0 w' (blk bw [.slice ar b.rows.length cr, .int .i64 b.leak, .int .i64 b.crest, .int .i64 b.over, .slice ap b.pols.length cp, .int .i64 (vK b s t (k + 1)), .slice af s.filled.length cf, .int .i64 t.outer, .int .i64 t.river, .int .i64 t.out, .int .i64 (rK t (k + 1)), .int .i64 (oK b t (k + 1)), .int .i64 (lK b s t (k + 1)), .int .i64 (uK b s t (k + 1)), tv'] 268 :: rowI (tv') 3 1 (tK b s t (k + 1)).length ((tK b s t (k + 1)).flatMap Bx.encI) :: rowI (.slice af s.filled.length cf) 3 1 s.filled.length ((fK b s t (k + 1)).flatMap Bx.encI) :: L9))
  | 0, _, w, L9, _, rfl, _, hS => CE.mono (c_river hS (by have := hso.vol; have := hok.vl 0 (by have := hok.len; omega); show _ ≤ s.volume ∧ s.volume ≤ _; omega) ht) fun u w' ⟨h1, h2⟩ => ⟨h1, _, fun _ => rfl, h2⟩
  | 1, _, w, L9, _, rfl, _, hS => CE.mono (c_wover hS (by have := v1_bd hok hso ht; have := hok.vl 0 (by have := hok.len; omega); show _ ≤ v1B s t ∧ v1B s t ≤ _; omega) ht hok) fun u w' ⟨h1, h2⟩ => ⟨h1, _, fun _ => rfl, h2⟩
  | 2, _, w, L9, _, rfl, hg, hS => CE.mono (c_leak hS (v2_bd hok hso ht).1 (gK_1 (hg 1 (by omega))) ht hok hb) fun u w' ⟨h1, h2⟩ => ⟨h1, _, fun _ => rfl, h2⟩
  | 3, _, w, L9, _, rfl, hg, hS => CE.mono (c_off hS (by have := v3_bd hok hso ht (gK_1 (hg 1 (by omega))); have := gK_2 (hg 2 (by omega)); have := hok.vl 0 (by have := hok.len; omega); show _ < v3B b s t ∧ v3B b s t ≤ _; omega) (v3_bd hok hso ht (gK_1 (hg 1 (by omega)))).1 ht hok (by obtain ⟨_, _, he, hsr, -⟩ := id hb; obtain ⟨rfl, rfl⟩ := bas_inj he; exact hsr)) fun u w' ⟨h1, h2⟩ => ⟨h1, _, fun _ => rfl, h2⟩
  | 4, _, w, L9, _, rfl, hg, hS => CE.mono (c_polders (l := s.filled) (v0 := v4B b s t) (L9 := L9) (hS.sub (.cons_cons _ (.cons _ (List.Sublist.refl _)))) (v4_bd hok hso ht (gK_1 (hg 1 (by omega))) (gK_2 (hg 2 (by omega)))) hso.len hso.fil hok hb) fun u w' ⟨h1, tv', h2⟩ => ⟨h1, tv', fun h => absurd h (by omega), by rw [show tK b s t (4 + 1) = tksP b s.filled (v4B b s t) b.pols.length from rfl, tksP_len]; rw [mixP_all hso.len.symm] at h2; exact h2⟩
  | k + 5, _, _, _, h, _, _, _ => absurd h (by omega)
theorem call_fnK : ∀ (k : Nat) (ars : Array Value) (w : World), (callFunc (fnK 172 173 174 175 176 k) ars).run Tryz.prog w = .ok (.enter (fnK 172 173 174 175 176 k) ars) w
  | 0 => Tryz.call172 | 1 => Tryz.call173 | 2 => Tryz.call174 | 3 => Tryz.call175 | _ + 4 => Tryz.call176
end Go.Proofs.YtmoilbakmlekbaaGreatDoor

/- part Aw54 -/
namespace Go.Proofs.YtmoilbakmlekbaaGreatDoor
open Go Bx
set_option maxHeartbeats 4000000 in
/-- barrage/basin.step -/
theorem c_step {b : Bas} {cs : List Value} {s : BSt} {qs : List Value} {t : BTk} {w0 : World} (h : RBas w0 cs b) (h2 : RBst w0 qs s) (hok : BasOk b) (hso : BstOk b s) (hI : I64 t.outer ∧ I64 t.river ∧ I64 t.out) : CE Tryz.prog 165 #[.agg cs.toArray, .agg qs.toArray, .agg (btkC t).toArray] w0 (fun u w' => (stepE b s t ≠ 0 ∧ u = .tuple #[.agg (.int .i64 0 :: .slice none 0 0 :: []).toArray, .agg (.int .i64 0 :: .int .i64 0 :: .int .i64 0 :: .int .i64 0 :: .slice none 0 0 :: []).toArray, .int .i64 (stepE b s t)] ∧ Ext w0 w') ∨ (stepE b s t = 0 ∧ ∃ a1 n1 c1 a2 n2 c2 it, u = .tuple #[.agg (.int .i64 (stepS b s t).volume :: .slice a1 n1 c1 :: []).toArray, .agg (flC (stepF b s t) (.slice a2 n2 c2)).toArray, .int .i64 0] ∧ (∀ w, it.ok w → RBst w [.int .i64 (stepS b s t).volume, .slice a1 n1 c1] (stepS b s t) ∧ RBfl w (flC (stepF b s t) (.slice a2 n2 c2)) (stepF b s t)) ∧ StX [] w0 w' [it])) := by
  obtain ⟨rv, pv, rfl, hsr, hlk, hcr, hov, hsp⟩ := id h
  obtain ⟨ar, cr, rfl, hrcap, hrmx, hrel⟩ := id hsr
  obtain ⟨ap, cp, rfl, hpcap, hpmx, hpel⟩ := id hsp
  obtain ⟨fv, rfl, hsv, hsf, hsm⟩ := id h2
  obtain ⟨ag, cg, rfl, hfcap, hfmx, hfel⟩ := id hsf
  have hsl := hso.len
  have hnp := hok.npol
  refine enter Tryz.func165 rfl Tryz.ntmps165 rfl ?_
  have hS := St.start w0
  refine seq ?_
  refine region ?_
  refine sbox hS rfl rfl ?_; clear hS; intro b3 w hS
  refine sbox hS rfl rfl ?_; clear hS; intro b4 w hS
  refine sbox hS rfl rfl ?_; clear hS; intro b5 w hS
  refine salloc hS Tryz.zeroValue87 rfl ?_; clear hS; intro b6 w hS
  refine salloc hS Tryz.zeroValue172 rfl ?_; clear hS; intro b7 w hS
  refine sv (yAsg rfl) ?_
  refine nil ?_
  show Code.wp _ _ _ _ _
  refine seq ?_
  refine seq ?_
  refine region ?_
  refine sv (fa96_0 rfl) ?_
  refine sv (yLdB rfl Tryz.isAgg3 (hS.at _) rfl) ?_
  refine scall Tryz.call158 (.cons rfl .nil) c_high ?_
  rintro _ w ⟨rfl, hE⟩; replace hS := hS.step hE; clear hE
  refine sv (yMove rfl) ?_
  refine sg rfl rfl rfl (fun g => (fa96_1 rfl)) (fun v16 g16 => ?_)
  refine sg rfl rfl rfl (fun g => (yLdB (g16.1 g) Tryz.isAgg3 (hS.at _) rfl)) (fun v17 g17 => ?_)
  refine sgc hS rfl rfl rfl Tryz.call125 (fun g => (.cons (g17.1 g) (.cons rfl (.cons rfl .nil)))) (fun g => c_bout) ?_; clear hS; intro v18 w hS g18
  refine sv (yOr rfl rfl (fun hB => (g18.1 hB))) ?_
  refine sv (yMove rfl) ?_
  refine sg rfl rfl rfl (fun g => (fa96_2 rfl)) (fun v21 g21 => ?_)
  refine sg rfl rfl rfl (fun g => (yLdB (g21.1 g) Tryz.isAgg3 (hS.at _) rfl)) (fun v22 g22 => ?_)
  refine sgc hS rfl rfl rfl Tryz.call125 (fun g => (.cons (g22.1 g) (.cons rfl (.cons rfl .nil)))) (fun g => c_bout) ?_; clear hS; intro v23 w hS g23
  refine sv (yOr rfl rfl (fun hB => (g23.1 hB))) ?_
  refine nil ?_
  show Code.wp _ _ _ _ _
  refine cond rfl (fun c24 => ?_) (fun c24 => ?_)
  ·
    refine seq ?_
    refine region ?_
    refine sv (yBuild Tryz.zeroValue87 rfl pl87 .nil rfl) ?_
    refine sv (yBuild Tryz.zeroValue172 rfl pl172 .nil rfl) ?_
    refine sst hS rfl rfl Tryz.sizeOf87 rfl rfl rfl rfl ?_; clear hS; intro w hS
    refine sst hS rfl rfl Tryz.sizeOf172 rfl rfl rfl rfl ?_; clear hS; intro w hS
    refine sv (yAsg rfl) ?_
    refine nil ?_
    show Code.wp _ _ _ _ _
    have hE := stepE_bad (b := b) (s := s) (show tkBad t = true from c24)
    refine wp_ret (thenR ?_)
    refine retQ (resV3 rfl (rc rfl Tryz.isAgg87 Tryz.sizeOf87 (hS.at _) rfl rfl) (rc rfl Tryz.isAgg172 Tryz.sizeOf172 (hS.at _) rfl rfl) (rt rfl)) ?_
    exact .inl ⟨by rw [hE]; decide, by rw [hE]; rfl, hS.ext⟩
  ·
    have htb : tkBad t = false := c24
    have ht := tk_ok htb
    refine skip ?_
    show Code.wp _ _ _ _ _
    refine seq ?_
    refine region ?_
    refine sv (fa87_1 rfl) ?_
    refine sv (yLdB rfl Tryz.isAgg34 (hS.at _) rfl) ?_
    refine scall Tryz.call86 (.cons rfl .nil) (c_CloneI (hsf.ext RInt.stays hS.ext) (by omega)) ?_
    rintro v29 w hM; replace hS := hS.call1 hM; clear hM
    obtain ⟨af, cf, rfl⟩ := row_shape (hS.row v29)
    refine sv (fa87_1 rfl) ?_
    refine sst hS rfl rfl Tryz.sizeOf34 rfl rfl rfl rfl ?_; clear hS; intro w hS
    refine nil ?_
    show Code.wp _ _ _ _ _
    refine seq ?_
    refine region ?_
    refine sv (yLdBA rfl Tryz.isAgg85 Tryz.sizeOf85 (hS.at _) rfl rfl) ?_
    refine sv (yLdBA rfl Tryz.isAgg87 Tryz.sizeOf87 (hS.at _) rfl rfl) ?_
    refine sv (yLdBA rfl Tryz.isAgg96 Tryz.sizeOf96 (hS.at _) rfl rfl) ?_
    refine sv (yBuild Tryz.zeroValue268 rfl pl268 (.cons rfl rfl (.cons rfl rfl (.cons rfl rfl .nil))) rfl) ?_
    refine sbox hS rfl rfl ?_; clear hS; intro b35 w hS
    refine sv (yAsg rfl) ?_
    refine nil ?_
    show Code.wp _ _ _ _ _
    refine seq ?_
    refine seq ?_
    refine region ?_
    replace hS := hS.nilrow 3 1
    replace hS : StX [] w0 w (blk b35 [.slice ar b.rows.length cr, .int .i64 b.leak, .int .i64 b.crest, .int .i64 b.over, .slice ap b.pols.length cp, .int .i64 (vK b s t 0), .slice af s.filled.length cf, .int .i64 t.outer, .int .i64 t.river, .int .i64 t.out, .int .i64 (rK t 0), .int .i64 (oK b t 0), .int .i64 (lK b s t 0), .int .i64 (uK b s t 0), .slice none 0 0] 268 :: rowI (.slice none 0 0) 3 1 (tK b s t 0).length ((tK b s t 0).flatMap Bx.encI) :: rowI (.slice af s.filled.length cf) 3 1 s.filled.length ((fK b s t 0).flatMap Bx.encI) :: blk b7 [.int .i64 0, .int .i64 0, .int .i64 0, .int .i64 0, .slice none 0 0] 172 :: blk b6 [.int .i64 0, .slice none 0 0] 87 :: []) := front_perm (hS.sub (.cons_cons _ (.cons_cons _ (.cons_cons _ (.cons_cons _ (.cons_cons _ (List.nil_sublist _)))))))
    refine sv (yMove rfl) ?_
    refine sv (yFnB (.cons rfl .nil)) ?_
    refine sv (yMove rfl) ?_
    refine sv (yFnB (.cons rfl .nil)) ?_
    refine sv (yMove rfl) ?_
    refine sv (yFnB (.cons rfl .nil)) ?_
    refine sv (yMove rfl) ?_
    refine sv (yFnB (.cons rfl .nil)) ?_
    refine sv (yMove rfl) ?_
    refine sv (yFnB (.cons rfl .nil)) ?_
    refine sv (yBuildA Tryz.zeroValue269 rfl Tryz.underlying269 Tryz.sizeOf33 (.cons rfl rfl (.cons rfl rfl (.cons rfl rfl (.cons rfl rfl (.cons rfl rfl .nil))))) rfl) ?_
    refine sv (yMove rfl) ?_
    refine nil ?_
    show Code.wp _ _ _ _ _
    refine block ?_
    refine loop (fun f w zz => ∃ (k : Nat) (tv : Value), f 6 = .pointer (some ⟨b6, 0, none⟩) ∧ f 7 = .pointer (some ⟨b7, 0, none⟩) ∧ f 9 = .pointer (some ⟨b35, 0, none⟩) ∧ f 46 = .agg (.func (.func 172) #[.pointer (some ⟨b35, 0, none⟩)] #[] :: .func (.func 173) #[.pointer (some ⟨b35, 0, none⟩)] #[] :: .func (.func 174) #[.pointer (some ⟨b35, 0, none⟩)] #[] :: .func (.func 175) #[.pointer (some ⟨b35, 0, none⟩)] #[] :: .func (.func 176) #[.pointer (some ⟨b35, 0, none⟩)] #[] :: []).toArray ∧ f 47 = .int .i64 (k : Int) ∧ StX [] w0 w ((blk b35 [.slice ar b.rows.length cr, .int .i64 b.leak, .int .i64 b.crest, .int .i64 b.over, .slice ap b.pols.length cp, .int .i64 (vK b s t k), .slice af s.filled.length cf, .int .i64 t.outer, .int .i64 t.river, .int .i64 t.out, .int .i64 (rK t k), .int .i64 (oK b t k), .int .i64 (lK b s t k), .int .i64 (uK b s t k), tv] 268 :: rowI (tv) 3 1 (tK b s t k).length ((tK b s t k).flatMap Bx.encI) :: rowI (.slice af s.filled.length cf) 3 1 s.filled.length ((fK b s t k).flatMap Bx.encI) :: blk b7 [.int .i64 0, .int .i64 0, .int .i64 0, .int .i64 0, .slice none 0 0] 172 :: blk b6 [.int .i64 0, .slice none 0 0] 87 :: [])) ∧ (k ≤ 5) ∧ (k < 5 → tv = .slice none 0 0) ∧ (∀ j, j < k → gK b s t j = true) ∧ zz = 5 - k) _ ⟨_, rfl, 0, _, rfl, rfl, rfl, rfl, rfl, hS, (Nat.zero_le _), (fun _ => rfl), (fun j hj => absurd hj (Nat.not_lt_zero j)), rfl⟩ ?_
    clear hS
    rintro f w _ ⟨k, tv, h6, h7, h9, h46, h47, hS, hk, htv, hg, rfl⟩
    refine seq ?_
    refine region ?_
    refine sv (yLss h47 rfl) ?_
    refine nil ?_
    show Code.wp _ _ _ _ _
    refine seq ?_
    refine cond rfl (fun c48 => ?_) (fun c48 => ?_)
    ·
      simp only [BS, ne_eq] at c48
      refine skip ?_
      show Code.wp _ _ _ _ _
      refine seq ?_
      refine block ?_
      refine seq ?_
      refine region ?_
      refine sv (yIdxA (v := .func (.func (fnK 172 173 174 175 176 k)) #[.pointer (some ⟨b35, 0, none⟩)] #[]) h46 h47 Tryz.underlying269 Tryz.sizeOf33 Tryz.isAgg33 (by omega) (by omega) (by rcases k with _ | _ | _ | _ | _ | k <;> first | rfl | omega)) ?_
      refine sv (yAsg rfl) ?_
      refine nil ?_
      show Code.wp _ _ _ _ _
      refine seq ?_
      refine region ?_
      refine sv (yMove rfl) ?_
      refine scallfB rfl (call_fnK k) .nil (c_do ht hok hso h k tv w _ (by omega) (htv (by omega)) hg hS) ?_
      rintro _ w ⟨rfl, tv2, htv2, hM⟩; replace hS := hM; clear hM
      refine sv (yNot rfl) ?_
      refine nil ?_
      show Code.wp _ _ _ _ _
      refine cond rfl (fun c52 => ?_) (fun c52 => ?_)
      ·
        refine seq ?_
        refine region ?_
        refine sv (yBuild Tryz.zeroValue87 rfl pl87 .nil rfl) ?_
        refine sv (yBuild Tryz.zeroValue172 rfl pl172 .nil rfl) ?_
        refine sst hS h6 rfl Tryz.sizeOf87 rfl rfl rfl rfl ?_; clear hS; intro w hS
        refine sst hS h7 rfl Tryz.sizeOf172 rfl rfl rfl rfl ?_; clear hS; intro w hS
        refine sv (yAsg rfl) ?_
        refine nil ?_
        show Code.wp _ _ _ _ _
        have hE := stepE_long htb (show k < 5 by omega) (show gK b s t k = false by revert c52; cases gK b s t k <;> simp)
        refine wp_ret (blockR (thenR (thenR (blockR (thenR ?_)))))
        refine retQ (resV3 rfl (rc h6 Tryz.isAgg87 Tryz.sizeOf87 (hS.at _) rfl rfl) (rc h7 Tryz.isAgg172 Tryz.sizeOf172 (hS.at _) rfl rfl) (rt rfl)) ?_
        exact .inl ⟨by rw [hE]; decide, by rw [hE]; rfl, hS.ext⟩
      ·
        refine skip ?_
        show Code.wp _ _ _ _ _
        refine region ?_
        refine sv (yAdd h47 rfl ⟨by omega, by omega⟩) ?_
        refine sv (yMove rfl) ?_
        refine nil ?_
        exact ⟨_, _, rfl, ⟨k + 1, _, h6, h7, h9, h46, rfl, hS, (by omega), (htv2), (snoc hg (by revert c52; cases gK b s t k <;> simp)), rfl⟩, by omega⟩
    ·
      simp only [BS, ne_eq] at c48
      obtain rfl : k = 5 := by omega
      obtain ⟨atv, ctv, rfl⟩ := row_shape (hS.row tv)
      refine exit ?_
      show Code.wp _ _ _ _ _
      refine seq ?_
      refine region_mix (fun w => w.heap[b35]? = some (.cells ([.slice ar b.rows.length cr, .int .i64 b.leak, .int .i64 b.crest, .int .i64 b.over, .slice ap b.pols.length cp, .int .i64 (vK b s t 5), .slice af s.filled.length cf, .int .i64 t.outer, .int .i64 t.river, .int .i64 t.out, .int .i64 (rK t 5), .int .i64 (oK b t 5), .int .i64 (lK b s t 5), .int .i64 (uK b s t 5), (.slice atv (tK b s t 5).length ctv)] : List Value).toArray 268 (0, 0))) 11 mixed hS ?_
      clear hS; intro w hS
      refine f_step 0 (by kernel_rfl) rfl (fun c a a' w h => by obtain ⟨_, v, hv, _⟩ := h; cases hv) (hS.at b35) (fun w hS => (yMove h9)) ?_
      refine f_step 1 (by kernel_rfl) rfl (fun c a a' w h => by obtain ⟨_, v, hv, _⟩ := h; cases hv) (hS.at b35) (fun w hS => (yNil rfl)) ?_
      refine f_step 2 (by kernel_rfl) rfl (fun c a a' w h => by obtain ⟨_, v, hv, _⟩ := h; cases hv) (hS.at b35) (fun w hS => (fa268_1 rfl)) ?_
      refine f_step 3 (by kernel_rfl) rfl (fun c a a' w h => by obtain ⟨_, v, hv, _⟩ := h; cases hv) (hS.at b35) (fun w hS => (yLdBA rfl Tryz.isAgg87 Tryz.sizeOf87 hS rfl rfl)) ?_
      refine f_step 4 (by kernel_rfl) rfl (fun c a a' w h => by obtain ⟨_, v, hv, _⟩ := h; cases hv) (hS.at b35) (fun w hS => (yMove h9)) ?_
      refine f_step 5 (by kernel_rfl) rfl (fun c a a' w h => by obtain ⟨_, v, hv, _⟩ := h; cases hv) (hS.at b35) (fun w hS => (yNil rfl)) ?_
      refine f_step 6 (by kernel_rfl) rfl (fun c a a' w h => by obtain ⟨_, v, hv, _⟩ := h; cases hv) (hS.at b35) (fun w hS => (fa268_3 rfl)) ?_
      refine f_step 7 (by kernel_rfl) rfl (fun c a a' w h => by obtain ⟨_, v, hv, _⟩ := h; cases hv) (hS.at b35) (fun w hS => (yLdBA rfl Tryz.isAgg172 Tryz.sizeOf172 hS rfl rfl)) ?_
      show wpA _ _ _ _ _ _ _ _ _ _
      refine a_step (i := 8) (is := []) (by kernel_rfl) ⟨?_, trivial⟩
      refine ⟨_, rfl, ?_⟩
      refine sst hS h6 rfl Tryz.sizeOf87 rfl rfl rfl rfl ?_; clear hS; intro w hS
      refine nil ?_
      refine ⟨fun _ => (hS.at b35), ?_⟩
      show wpA _ _ _ _ _ _ _ _ _ _
      show wpA _ _ _ _ _ _ _ _ _ _
      refine a_step (i := 9) (is := []) (by kernel_rfl) ⟨?_, trivial⟩
      refine ⟨_, rfl, ?_⟩
      refine sst hS h7 rfl Tryz.sizeOf172 rfl rfl rfl rfl ?_; clear hS; intro w hS
      refine nil ?_
      refine ⟨fun _ => (hS.at b35), ?_⟩
      show wpA _ _ _ _ _ _ _ _ _ _
      refine f_step 10 (by kernel_rfl) rfl (fun c a a' w h => by obtain ⟨_, v, hv, _⟩ := h; cases hv) (hS.at b35) (fun w hS => (yAsg rfl)) ?_
      refine a_end (by kernel_rfl) ?_
      show Code.wp _ _ _ _ _
      have hE := stepE_fine htb hg
      refine wp_ret ?_
      refine retQ (resV3 rfl (rc h6 Tryz.isAgg87 Tryz.sizeOf87 (hS.at _) rfl rfl) (rc h7 Tryz.isAgg172 Tryz.sizeOf172 (hS.at _) rfl rfl) (rt rfl)) ?_
      exact .inr ⟨hE, _, _, _, _, _, _, packI [rowI (.slice atv (tK b s t 5).length ctv) 3 1 (tK b s t 5).length ((tK b s t 5).flatMap Bx.encI), rowI (.slice af s.filled.length cf) 3 1 s.filled.length ((fK b s t 5).flatMap Bx.encI)], rfl, fun w hw => ⟨step_st1 hok hso ht hg (hw _ (List.mem_cons_of_mem _ (List.mem_cons_self ..))), step_fl1 hok hso ht hg (hw _ (List.mem_cons_self ..))⟩, StX.pack (M := [rowI (.slice atv (tK b s t 5).length ctv) 3 1 (tK b s t 5).length ((tK b s t 5).flatMap Bx.encI), rowI (.slice af s.filled.length cf) 3 1 s.filled.length ((fK b s t 5).flatMap Bx.encI)]) (hS.sub (.cons _ (.cons_cons _ (.cons_cons _ (List.nil_sublist _)))))⟩
end Go.Proofs.YtmoilbakmlekbaaGreatDoor

/- part A40 -/
namespace Bx
open Go Go.RowKit
section
variable {b : Bas} (h : BasOk b)
include h
end
/-- A state with at least as much water everywhere. -/
structure LeS (b : Bas) (s s' : BSt) : Prop where
  vol : s.volume ≤ s'.volume
  fil : ∀ i, i < b.pols.length → flB s.filled i ≤ flB s'.filled i
structure LeT (t t' : BTk) : Prop where
  outer : t.outer ≤ t'.outer
  river : t.river ≤ t'.river
  out : t.out = t'.out
/-- Ticks with more water. -/
structure LeL (l l' : List BTk) : Prop where
  len : l.length = l'.length
  le : ∀ i, i < l.length → LeT (tkL l i) (tkL l' i)
theorem firstFl_at {b : Bas} {s : BSt} {l : List BTk} {i : Nat} : (firstFl b s l i = -1 ∧ ∀ k, k < l.length → ¬ 0 < flB (flN b s l k).taken i) ∨ ∃ k : Nat, firstFl b s l i = (k : Int) ∧ k < l.length ∧ 0 < flB (flN b s l k).taken i ∧ ∀ j, j < k → ¬ 0 < flB (flN b s l j).taken i := by
  unfold firstFl
  cases hf : (List.range l.length).find? (fun k => decide (0 < flB (flN b s l k).taken i)) with
  | none =>
    refine .inl ⟨rfl, fun k hk => ?_⟩
    have := List.find?_eq_none.1 hf k (List.mem_range.2 hk)
    simpa using this
  | some k =>
    have hm := List.mem_range.1 (List.mem_of_find?_eq_some hf)
    have hp := List.find?_some hf
    refine .inr ⟨k, rfl, hm, by simpa using hp, fun j hj => ?_⟩
    obtain ⟨hx, i', hi', e1, e2⟩ := List.find?_eq_some_iff_getElem.1 hf
    simp at e1
    subst e1
    have := e2 j hj
    simpa using this
end Bx

/- part A41 -/
namespace Bx
open Go Go.RowKit
section
variable {b : Bas} {s : BSt} {l : List BTk} {TI TE : TypeId} {w : World}
theorem mom_shape {pre : List Mom} {y : Mom} (h : OkTr b s l w (pre ++ [y]) ∨ ErTr b s l TI TE w (pre ++ [y])) : ∃ i0 q0 n0 c0 i1 i2 i3 i4 q1 n1 c1 yv, y = ([.int .i64 i0, .slice q0 n0 c0, .int .i64 i1, .int .i64 i2, .int .i64 i3, .int .i64 i4, .slice q1 n1 c1], yv) ∧ (yv = .nilIface ∨ ∃ T p, yv = .iface T (.pointer p)) := by
  rcases h with h | ⟨q, bE, e, -⟩
  · obtain ⟨-, cs, h1, h2⟩ := h.2 pre.length (by simp)
    simp at h1
    subst h1
    obtain ⟨fv, tv, rfl, ⟨fv2, e1, -, ⟨a1, c1, rfl, -⟩, -⟩, tv2, e2, ⟨a2, c2, rfl, -⟩⟩ := h2
    obtain rfl : fv = .slice a1 _ c1 := by simpa using e1
    obtain rfl : tv = .slice a2 _ c2 := by simpa [flC] using e2
    exact ⟨_, _, _, _, _, _, _, _, _, _, _, _, rfl, .inl rfl⟩
  · obtain ⟨-, e2⟩ := List.append_inj' e rfl
    simp at e2
    subst e2
    exact ⟨_, _, _, _, _, _, _, _, _, _, _, _, rfl, .inr ⟨_, _, rfl⟩⟩
theorem mom_len {tr : List Mom} (h : OkTr b s l w tr ∨ ErTr b s l TI TE w tr) : tr.length ≤ l.length := by
  rcases h with h | ⟨q, bE, rfl, -, hl, -⟩
  · exact h.1
  · simp; omega
theorem nil_of {v : Value} (h : v = .nilIface ∨ ∃ T p, v = .iface T (.pointer p)) (hn : notNil v = false) : v = .nilIface := by
  rcases h with h | ⟨T, p, rfl⟩
  · exact h
  · cases hn
theorem ErTr.get {q : List Mom} {z : Mom} (h : ErTr b s l TI TE w (q ++ [z])) : ∃ bE, z = (zMom, .iface TI (.pointer (some ⟨bE, 0, none⟩))) ∧ firstN (errN b s l) l.length 0 = ((q.length : Int), errN b s l q.length) ∧ errN b s l q.length ≠ 0 ∧ w.heap[bE]? = some (.cells [.int .i64 (q.length : Int), .int .i64 (errN b s l q.length)].toArray TE (0, 0)) := by
  obtain ⟨pre, bE, h1, h2, h3, h4, h5⟩ := h
  obtain ⟨rfl, e2⟩ := List.append_inj' h1 rfl
  refine ⟨bE, by simpa using e2, ?_, h4, h5⟩
  have := firstN_at (f := errN b s l) (k := 0) (j := q.length) (m := l.length) (fun i _ hi => (h2.2 i (by omega)).1) h3 (by rw [Nat.zero_add]; exact h4)
  rw [Nat.zero_add] at this
  exact this
theorem StX.pack1 {S : List Nat} {w0 w : World} {x : Item} {M L : List Item} (h : StX S w0 w (x :: (M ++ L))) : StX S w0 w (x :: packI M :: L) :=
  (StX.pack (h.perm List.perm_middle.symm)).perm (.swap _ _ _)
/-- All moments of a run, in a row. -/
theorem mom_sl {e : TypeId} {v : Value} {tr : List Mom} (h : OkTr b s l w tr) (hl : tr.length = l.length) (hr : w.ownsRow 0 e 7 v tr.length (tr.map (·.1)).flatten) : Sl w 7 RMom v (momL b s l) :=
  sl_of_row hr (h.all hl) (by rw [momL_len, hl])
/-- The first moment in which a polder takes water. -/
theorem first_idx (i : Nat) : idxF (fun x : BSt × BFl => decide (0 < flB x.2.taken i)) (momL b s l) 0 = firstFl b s l i := by
  have hn := momL_len b s l
  rcases idxF_spec (fun x : BSt × BFl => decide (0 < flB x.2.taken i)) (momL b s l) 0 (Int.le_refl _) with ⟨h1, h2⟩ | ⟨q, _, h2, h3, o, h4, h5⟩
  · rw [h1]
    have hq : ∀ k, k < l.length → ¬ 0 < flB (flN b s l k).taken i := fun k hk hc => by
      have hm : momN b s l k ∈ (momL b s l).filter fun x => !decide (0 < flB x.2.taken i) := by rw [h2]; exact List.mem_of_getElem? (momL_get b s l hk)
      have := (List.mem_filter.1 hm).2
      simp at this
      exact absurd hc (by show ¬ 0 < flB (momN b s l k).2.taken i; omega)
    unfold firstFl
    rw [show (List.range l.length).find? (fun k => decide (0 < flB (flN b s l k).taken i)) = none from List.find?_eq_none.2 fun k hk => by simpa using hq k (List.mem_range.1 hk)]
  · rw [h2]
    have hql : q < l.length := by have : q < (momL b s l).length := by omega
                                  omega
    have ho : o = momN b s l q := by rw [momL_get b s l hql] at h4; exact (Option.some.inj h4).symm
    subst ho
    have hz : ∀ j, j < q → ¬ 0 < flB (flN b s l j).taken i := fun j hj hc => by
      have hm : momN b s l j ∈ (momL b s l).take q := List.mem_of_getElem? (i := j) (by rw [List.getElem?_take, if_pos hj]; exact momL_get b s l (by omega))
      have := h3 _ hm
      simp at this
      exact absurd hc (by show ¬ 0 < flB (momN b s l j).2.taken i; omega)
    have hf : (List.range l.length).find? (fun k => decide (0 < flB (flN b s l k).taken i)) = some q := by
      rw [List.find?_range_eq_some]
      exact ⟨h5, by simpa using hql, fun j hj => by simpa using hz j hj⟩
    unfold firstFl
    rw [hf]
    simp
end
end Bx

/- part A42 -/
namespace Bx
open Go Go.RowKit
theorem mom_taken {b : Bas} {s : BSt} {l : List BTk} {x : BSt × BFl} (h : x ∈ momL b s l) : x.2.taken.length = b.pols.length := by
  obtain ⟨k, -, rfl⟩ := List.mem_map.1 h
  exact tksP_len ..
theorem run_ok {b : Bas} {s : BSt} {l : List BTk} (h : runE b s l = 0) : BasOk b ∧ BstOk b s ∧ l.length ≤ 300 ∧ ∀ i, i < l.length → errN b s l i = 0 := by
  unfold runE at h
  split at h
  next h1 => exact absurd h h1
  next h1 =>
  split at h
  · simp at h
  next h2 =>
  obtain ⟨k1, k2⟩ := st_ok (Decidable.not_not.1 h1)
  exact ⟨k1, k2, by omega, fun i hi => firstN_ok h i (Nat.zero_le _) (by omega)⟩
end Bx
namespace Go.Proofs.YtmoilbakmlekbaaGreatDoor
open Go Bx Go.RowKit
theorem c_AsHitF {e bt : Nat} {old : Value} {S : List Nat} {w0 w : World} {L L' : List Bx.Item} {T : TypeId} (hS : StX S w0 w L) (hg : Glb w) [i : AtB L bt (Eq (.cells [old].toArray T (0, 0)))] [j : SetB L bt (Eq (.cells [.pointer (some ⟨e, 0, none⟩)].toArray T (0, 0))) L'] :
    CE Tryz.prog 56 #[.iface 212 (.pointer (some ⟨e, 0, none⟩)), .iface 213 (.pointer (some ⟨bt, 0, none⟩))] w fun u w' => u = .bool true ∧ StX S w0 w' L' := by
  have hb := hS.at bt (o := .cells [old].toArray T (0, 0))
  have h := asHitFailure ⟨e, 0, none⟩ ⟨bt, 0, none⟩ old w hg (by simp [World.cell?, hb]) (by simp [World.frozen?, hb])
  refine Calls.mono h ?_
  rintro ev w' ⟨rfl, rfl⟩
  refine ⟨_, rfl, rfl, ?_⟩
  exact set4 hS
end Go.Proofs.YtmoilbakmlekbaaGreatDoor

/- part Aw55 -/
namespace Go.Proofs.YtmoilbakmlekbaaGreatDoor
open Go Bx
/-- barrage/basin.moments -/
theorem c_moments {cs qs : List Value} {al : Option Addr} {nl cl : Nat} {w0 : World} : CE Tryz.prog 144 #[.agg cs.toArray, .agg qs.toArray, .slice al nl cl] w0 (fun u w' => ∃ x3 x4 x5, u = .func (.func 164) #[] [.pointer (some ⟨x5, 0, none⟩), .pointer (some ⟨x3, 0, none⟩), .pointer (some ⟨x4, 0, none⟩)].toArray ∧ St w0 w' [blk x5 [.slice al nl cl] 94, blk x4 qs 87, blk x3 cs 85]) := by
  refine enter Tryz.func144 rfl Tryz.ntmps144 rfl ?_
  have hS := St.start w0
  refine seq ?_
  refine region ?_
  refine sbox hS rfl rfl ?_; clear hS; intro b3 w hS
  refine sbox hS rfl rfl ?_; clear hS; intro b4 w hS
  refine sbox hS rfl rfl ?_; clear hS; intro b5 w hS
  refine sv (yAsg rfl) ?_
  refine nil ?_
  show Code.wp _ _ _ _ _
  refine seq ?_
  refine region ?_
  refine sv (yFn (.cons rfl (.cons rfl (.cons rfl .nil)))) ?_
  refine sv (yAsg rfl) ?_
  refine nil ?_
  show Code.wp _ _ _ _ _
  refine wp_ret ?_
  refine retQ (res1 rfl rfl) ?_
  exact ⟨b3, b4, b5, rfl, hS⟩
set_option maxHeartbeats 4000000 in
/-- barrage/basin.moments closure 1 -/
theorem it_moments {b : Bas} {s : BSt} {l : List BTk} {ar ap al : Option Addr} {cr cp cl x3 x4 x5 : Nat} {sqv : Value} {wb w0 : World} (he : Ext wb w0) (hb : RBas wb [.slice ar b.rows.length cr, .int .i64 b.leak, .int .i64 b.crest, .int .i64 b.over, .slice ap b.pols.length cp] b) (h2 : RBst wb [.int .i64 s.volume, sqv] s) (hl : Sl wb 3 RBtk (.slice al l.length cl) l) (hok : BasOk b) (hso : BstOk b s) : ItG Tryz.prog 164 [.pointer (some ⟨x5, 0, none⟩), .pointer (some ⟨x3, 0, none⟩), .pointer (some ⟨x4, 0, none⟩)] w0 [blk x4 [.int .i64 s.volume, sqv] 87, blk x3 [.slice ar b.rows.length cr, .int .i64 b.leak, .int .i64 b.crest, .int .i64 b.over, .slice ap b.pols.length cp] 85, blk x5 [.slice al l.length cl] 94] momC (TrB b s l 212 215 wb) (ZrB b s l 212 215 wb) := by
  obtain ⟨_, cq, _, hq1, hq2, -⟩ := id hl
  have hb0 := hb.ext he
  have hl0 := hl.ext RBtk.stays he
  intro yl Cb w L hY h0 hS
  replace hS : StX [] w0 w (blk x4 [.int .i64 s.volume, sqv] 87 :: blk x3 [.slice ar b.rows.length cr, .int .i64 b.leak, .int .i64 b.crest, .int .i64 b.over, .slice ap b.pols.length cp] 85 :: blk x5 [.slice al l.length cl] 94 :: packI ([]) :: L) := pack3 hS
  refine enterX Tryz.func164 rfl Tryz.ntmps164 rfl ?_
  skip
  refine seqX ?_
  refine regionX rfl ?_
  refine sv (yLdB rfl Tryz.isAgg94 (hS.at _) rfl) ?_
  refine sv (yLen rfl Tryz.underlying94) ?_
  refine sv (yMove rfl) ?_
  refine nil ?_
  show Code.wpIn _ _ _ _ _ _ _
  refine blockX ?_
  refine loopX (fun f w zz => ∃ (k : Nat) (vk : Value) (Hs : List Bx.Item) (tr : List Mom) (L : List Bx.Item), f 0 = .func (.yield yl) #[] #[] ∧ f 1 = .pointer (some ⟨x5, 0, none⟩) ∧ f 2 = .pointer (some ⟨x3, 0, none⟩) ∧ f 3 = .pointer (some ⟨x4, 0, none⟩) ∧ f 10 = .slice al l.length cl ∧ f 11 = .int .i64 (l.length : Int) ∧ f 12 = .int .i64 (k : Int) ∧ StX [] w0 w (blk x4 [.int .i64 (stN b s l k).volume, vk] 87 :: blk x3 [.slice ar b.rows.length cr, .int .i64 b.leak, .int .i64 b.crest, .int .i64 b.over, .slice ap b.pols.length cp] 85 :: blk x5 [.slice al l.length cl] 94 :: packI (Hs) :: L) ∧ (k ≤ l.length) ∧ (tr.length = k) ∧ (Cb true tr L) ∧ (∀ w, Ext wb w → (∀ it ∈ Hs, it.ok w) → OkTr b s l w tr ∧ RBst w [.int .i64 (stN b s l k).volume, vk] (stN b s l k)) ∧ zz = l.length - k) _ ⟨_, rfl, 0, sqv, [], [], L, rfl, rfl, rfl, rfl, rfl, rfl, rfl, hS, (Nat.zero_le _), (rfl), (h0), (fun w e _ => ⟨OkTr.nil, h2.ext e⟩), rfl⟩ ?_
  clear hS
  rintro f w _ ⟨k, vk, Hs, tr, L, h0, h1, h2, h3, h10, h11, h12, hS, hk, htl, hcb, hq, rfl⟩
  refine seqX ?_
  refine regionX rfl ?_
  refine sv (yLss h12 h11) ?_
  refine nil ?_
  show Code.wpIn _ _ _ _ _ _ _
  refine seqX ?_
  refine condX rfl (fun c13 => ?_) (fun c13 => ?_)
  ·
    simp only [BS, ne_eq] at c13
    have hkl : k < l.length := by omega
    obtain ⟨bx, ox, cx, hax, hlx, hcx, hRx, -⟩ := sl_at hl0 (tkL_get hkl)
    obtain ⟨rfl, hI⟩ := hRx
    obtain ⟨hOk, hqs⟩ := hq w (he.trans hS.ext) (fun it hi => hS.inpack (by simp) hi)
    refine skipX ?_
    show Code.wpIn _ _ _ _ _ _ _
    refine seqX ?_
    refine blockX ?_
    refine seqX ?_
    refine regionX rfl ?_
    refine sv (yMove h12) ?_
    refine sv (yIxa h10 hax h12 Tryz.runUnderlying94 Tryz.sizeOf96 (by omega) (by omega)) ?_
    refine sv (yLdA rfl Tryz.isAgg96 Tryz.sizeOf96 (hcx.ext hS.ext) rfl) ?_
    refine salloc hS Tryz.zeroValue96 rfl ?_; clear hS; intro b6 w hS
    refine sv (yAsg rfl) ?_
    refine sst hS rfl rfl Tryz.sizeOf96 rfl rfl rfl rfl ?_; clear hS; intro w hS
    refine nil ?_
    show Code.wpIn _ _ _ _ _ _ _
    refine seqX ?_
    refine regionX rfl ?_
    refine sv (yLdBA h2 Tryz.isAgg85 Tryz.sizeOf85 (hS.at _) rfl rfl) ?_
    refine sv (yLdBA h3 Tryz.isAgg87 Tryz.sizeOf87 (hS.at _) rfl rfl) ?_
    refine sv (yLdBA rfl Tryz.isAgg96 Tryz.sizeOf96 (hS.at _) rfl rfl) ?_
    refine scall Tryz.call165 (.cons rfl (.cons rfl (.cons rfl .nil))) (c_step (hb0.ext hS.ext) (hq _ (he.trans hS.ext) (fun it hi => hS.inpack (M := Hs) (by simp) hi)).2 hok (stN_ok hok hso k fun i hi => (hOk.2 i (by omega)).1) hI) ?_
    rintro _ w (⟨hE, rfl, hM⟩ | ⟨hE, a1, n1, c1, a2, n2, c2, it, rfl, hit, hM⟩)
    ·
      replace hS := hS.step hM; clear hM
      have hEn : errN b s l k ≠ 0 := hE
      refine sv (yMove rfl) ?_
      refine sv (yExt rfl rfl) ?_
      refine sv (yExt rfl rfl) ?_
      refine sv (yExt rfl rfl) ?_
      refine salloc hS Tryz.zeroValue87 rfl ?_; clear hS; intro b7 w hS
      refine salloc hS Tryz.zeroValue172 rfl ?_; clear hS; intro b8 w hS
      refine sst hS rfl rfl Tryz.sizeOf87 rfl rfl rfl rfl ?_; clear hS; intro w hS
      refine sst hS rfl rfl Tryz.sizeOf172 rfl rfl rfl rfl ?_; clear hS; intro w hS
      refine sv (yAsg rfl) ?_
      refine nil ?_
      show Code.wpIn _ _ _ _ _ _ _
      refine seqX ?_
      refine seqX ?_
      refine regionX rfl ?_
      refine sv (yMove rfl) ?_
      refine sv (yNeq rfl rfl) ?_
      refine nil ?_
      show Code.wpIn _ _ _ _ _ _ _
      refine condX rfl (fun c26 => ?_) (fun c26 => ?_)
      ·
        simp only [BS, ne_eq] at c26
        refine seqX ?_
        refine regionL ?_
        refine preX 7 rfl ?_
        refine sv (yMove h0) ?_
        refine sv (yBuild Tryz.zeroValue174 rfl pl174 .nil rfl) ?_
        refine sv (yMove rfl) ?_
        refine sv (yMove rfl) ?_
        refine sv (yBuild Tryz.zeroValue215 rfl pl215 (.cons rfl rfl (.cons rfl rfl .nil)) rfl) ?_
        refine sbox hS rfl rfl ?_; clear hS; intro b32 w hS
        refine sv (yIfaceG rfl Tryz.underlying212 rfl) ?_
        refine nil ?_
        show wpListIn _ _ _ _ _ _ _ _
        have hTe : ∀ w, Ext wb w → (∀ jt ∈ [blk b32 [.int .i64 (k : Int), .int .i64 (stepE b (stN b s l k) (tkL l k))] 215, blk b8 [.int .i64 0, .int .i64 0, .int .i64 0, .int .i64 0, .slice none 0 0] 172, blk b7 [.int .i64 0, .slice none 0 0] 87, blk b6 (btkC (tkL l k)) 96, blk x4 [.int .i64 (stN b s l k).volume, vk] 87, blk x3 [.slice ar b.rows.length cr, .int .i64 b.leak, .int .i64 b.crest, .int .i64 b.over, .slice ap b.pols.length cp] 85, blk x5 [.slice al l.length cl] 94, packI Hs], jt.ok w) → ErTr b s l 212 215 w (tr ++ [(zMom, .iface 212 (.pointer (some ⟨b32, 0, none⟩)))]) := fun w e h => by
          refine ⟨tr, b32, rfl, (hq w e (fun it hi => h (packI Hs) (by simp) it hi)).1, by omega, by rw [htl]; exact hEn, ?_⟩
          obtain ⟨o, ho, rfl⟩ := h _ (List.mem_cons_self ..)
          rw [htl]
          exact ho
        refine yieldU rfl (.cons rfl (.cons rfl .nil)) (hY tr (zMom, .iface 212 (.pointer (some ⟨b32, 0, none⟩))) w L [blk b32 [.int .i64 (k : Int), .int .i64 (stepE b (stN b s l k) (tkL l k))] 215, blk b8 [.int .i64 0, .int .i64 0, .int .i64 0, .int .i64 0, .slice none 0 0] 172, blk b7 [.int .i64 0, .slice none 0 0] 87, blk b6 (btkC (tkL l k)) 96, blk x4 [.int .i64 (stN b s l k).volume, vk] 87, blk x3 [.slice ar b.rows.length cr, .int .i64 b.leak, .int .i64 b.crest, .int .i64 b.over, .slice ap b.pols.length cp] 85, blk x5 [.slice al l.length cl] 94, packI Hs] (fun w e h => .inr (hTe w e h)) hcb hS) ?_
        clear hS; rintro _ w ⟨bq, L2, rfl, hcb2, hS⟩
        refine endX rfl ?_
        refine nil ?_
        show Code.wpIn _ _ _ _ _ _ _
        refine wpIn_ret (thenR (blockR (thenR (thenR (blockR ?_)))))
        refine leafX (results_none rfl _ _ _) ?_
        cases bq
        · exact ⟨_, _, _, hS, .inr ⟨fun w e h => .inr (hTe w e h), hcb2⟩⟩
        · exact ⟨_, _, _, hS, .inl ⟨fun w e h => .inr (hTe w e h), hcb2⟩⟩
      ·
        simp only [BS, ne_eq] at c26
        exact absurd c26 hE
    ·
      replace hS := hS.call1 hM; clear hM
      have hEn : errN b s l k = 0 := hE
      have hitR : ∀ w, it.ok w → RBst w [.int .i64 (stN b s l (k + 1)).volume, .slice a1 n1 c1] (stN b s l (k + 1)) ∧ RBfl w (flC (flN b s l k) (.slice a2 n2 c2)) (flN b s l k) := hit
      refine sv (yMove rfl) ?_
      refine sv (yExt rfl rfl) ?_
      refine sv (yExt rfl rfl) ?_
      refine sv (yExt rfl rfl) ?_
      refine salloc hS Tryz.zeroValue87 rfl ?_; clear hS; intro b7 w hS
      refine salloc hS Tryz.zeroValue172 rfl ?_; clear hS; intro b8 w hS
      refine sst hS rfl rfl Tryz.sizeOf87 rfl rfl rfl rfl ?_; clear hS; intro w hS
      refine sst hS rfl rfl Tryz.sizeOf172 rfl rfl rfl rfl ?_; clear hS; intro w hS
      refine sv (yAsg rfl) ?_
      refine nil ?_
      show Code.wpIn _ _ _ _ _ _ _
      refine seqX ?_
      refine seqX ?_
      refine regionX rfl ?_
      refine sv (yMove rfl) ?_
      refine sv (yNeq rfl rfl) ?_
      refine nil ?_
      show Code.wpIn _ _ _ _ _ _ _
      refine condX rfl (fun c26 => ?_) (fun c26 => ?_)
      ·
        exact absurd c26 (by decide)
      ·
        refine skipX ?_
        show Code.wpIn _ _ _ _ _ _ _
        refine seqX ?_
        refine regionX rfl ?_
        refine sv (yLdBA rfl Tryz.isAgg87 Tryz.sizeOf87 (hS.at _) rfl rfl) ?_
        refine sst hS h3 rfl Tryz.sizeOf87 rfl rfl rfl rfl ?_; clear hS; intro w hS
        refine nil ?_
        show Code.wpIn _ _ _ _ _ _ _
        refine seqX ?_
        refine regionL ?_
        refine preX 4 rfl ?_
        refine sv (yMove h0) ?_
        refine sv (yLdBA rfl Tryz.isAgg87 Tryz.sizeOf87 (hS.at _) rfl rfl) ?_
        refine sv (yLdBA rfl Tryz.isAgg172 Tryz.sizeOf172 (hS.at _) rfl rfl) ?_
        refine sv (yBuild Tryz.zeroValue174 rfl pl174 (.cons rfl rfl (.cons rfl rfl .nil)) rfl) ?_
        refine nil ?_
        show wpListIn _ _ _ _ _ _ _ _
        have hTr2 : ∀ w, Ext wb w → (∀ i ∈ Hs ++ [it], i.ok w) → OkTr b s l w (tr ++ [(.int .i64 (stN b s l (k + 1)).volume :: .slice a1 n1 c1 :: flC (flN b s l k) (.slice a2 n2 c2), .nilIface)]) := fun w e h => by
          obtain ⟨r1, r2⟩ := hitR w (h it (by simp))
          refine (hq w e (fun i hi => h i (List.mem_append_left _ hi))).1.snoc (by omega) (by rw [htl]; exact hEn) ?_
          rw [htl]
          exact ⟨_, _, rfl, r1, r2⟩
        have hTr : ∀ w, Ext wb w → (∀ jt ∈ [blk b8 (flC (flN b s l k) (.slice a2 n2 c2)) 172, blk b7 [.int .i64 (stN b s l (k + 1)).volume, .slice a1 n1 c1] 87, it, blk b6 (btkC (tkL l k)) 96, blk x4 [.int .i64 (stN b s l (k + 1)).volume, .slice a1 n1 c1] 87, blk x3 [.slice ar b.rows.length cr, .int .i64 b.leak, .int .i64 b.crest, .int .i64 b.over, .slice ap b.pols.length cp] 85, blk x5 [.slice al l.length cl] 94, packI Hs], jt.ok w) → OkTr b s l w (tr ++ [(.int .i64 (stN b s l (k + 1)).volume :: .slice a1 n1 c1 :: flC (flN b s l k) (.slice a2 n2 c2), .nilIface)]) := fun w e h => hTr2 w e fun i hi => by
          rcases List.mem_append.1 hi with hi | hi
          · exact h (packI Hs) (by simp) i hi
          · obtain rfl : i = it := by simpa using hi
            exact h i (by simp)
        refine yieldU rfl (.cons rfl (.cons rfl .nil)) (hY tr (.int .i64 (stN b s l (k + 1)).volume :: .slice a1 n1 c1 :: flC (flN b s l k) (.slice a2 n2 c2), .nilIface) w L [blk b8 (flC (flN b s l k) (.slice a2 n2 c2)) 172, blk b7 [.int .i64 (stN b s l (k + 1)).volume, .slice a1 n1 c1] 87, it, blk b6 (btkC (tkL l k)) 96, blk x4 [.int .i64 (stN b s l (k + 1)).volume, .slice a1 n1 c1] 87, blk x3 [.slice ar b.rows.length cr, .int .i64 b.leak, .int .i64 b.crest, .int .i64 b.over, .slice ap b.pols.length cp] 85, blk x5 [.slice al l.length cl] 94, packI Hs] (fun w e h => .inl (hTr w e h)) hcb hS) ?_
        clear hS; rintro _ w ⟨bq, L2, rfl, hcb2, hS⟩
        refine endX rfl ?_
        refine sv (yNot rfl) ?_
        refine nil ?_
        show Code.wpIn _ _ _ _ _ _ _
        refine condX rfl (fun c41 => ?_) (fun c41 => ?_)
        ·
          simp only [BS, ne_eq] at c41
          obtain rfl : bq = false := by revert c41; cases bq <;> simp
          refine wpIn_ret (blockR (thenR (thenR (blockR ?_))))
          refine leafX (results_none rfl _ _ _) ?_
          exact ⟨_, _, _, hS, .inr ⟨fun w e h => .inl (hTr w e h), hcb2⟩⟩
        ·
          simp only [BS, ne_eq] at c41
          obtain rfl : bq = true := by revert c41; cases bq <;> simp
          refine skipX ?_
          show Code.wpIn _ _ _ _ _ _ _
          refine regionX rfl ?_
          refine sv (yAdd h12 rfl ⟨by omega, by omega⟩) ?_
          refine sv (yMove rfl) ?_
          refine nil ?_
          exact ⟨_, _, rfl, ⟨k + 1, .slice a1 n1 c1, Hs ++ [it], tr ++ [(.int .i64 (stN b s l (k + 1)).volume :: .slice a1 n1 c1 :: flC (flN b s l k) (.slice a2 n2 c2), .nilIface)], L2, h0, h1, h2, h3, h10, h11, rfl, (repack3 hS), (by omega), (by simp [htl]), (hcb2), (fun w e h => ⟨hTr2 w e h, (hitR w (h _ (by simp))).1⟩), rfl⟩, by omega⟩
  ·
    simp only [BS, ne_eq] at c13
    obtain rfl : k = l.length := by omega
    refine exitX ?_
    show bodyPostM (FX none) 0 _ _ _ .normal _ _
    refine leafXN (results_none rfl _ _ _) ?_
    exact ⟨tr, [blk x4 [.int .i64 (stN b s l l.length).volume, vk] 87, blk x3 [.slice ar b.rows.length cr, .int .i64 b.leak, .int .i64 b.crest, .int .i64 b.over, .slice ap b.pols.length cp] 85, blk x5 [.slice al l.length cl] 94, packI Hs], L, hS, .inl ⟨fun w e h => .inl ⟨(hq w e (fun it hi => h (packI Hs) (by simp) it hi)).1, htl⟩, hcb⟩⟩
end Go.Proofs.YtmoilbakmlekbaaGreatDoor

/- part Aw56 -/
namespace Go.Proofs.YtmoilbakmlekbaaGreatDoor
open Go Bx
set_option maxHeartbeats 2000000 in
/-- barrage/basin.all -/
theorem c_all {b : Bas} {s : BSt} {l : List BTk} {ar ap al : Option Addr} {cr cp cl : Nat} {sqv : Value} {wb w0 : World} (he : Ext wb w0) (hb : RBas wb [.slice ar b.rows.length cr, .int .i64 b.leak, .int .i64 b.crest, .int .i64 b.over, .slice ap b.pols.length cp] b) (h2 : RBst wb [.int .i64 s.volume, sqv] s) (hl : Sl wb 3 RBtk (.slice al l.length cl) l) (hok : BasOk b) (hso : BstOk b s) (hln : l.length ≤ 300) : CE Tryz.prog 130 #[.agg [.slice ar b.rows.length cr, .int .i64 b.leak, .int .i64 b.crest, .int .i64 b.over, .slice ap b.pols.length cp].toArray, .agg [.int .i64 s.volume, sqv].toArray, .slice al l.length cl] w0 (fun u w' => ((firstN (errN b s l) l.length 0).2 ≠ 0 ∧ ∃ bE k it, u = .tuple #[.slice none 0 0, .iface 212 (.pointer (some ⟨bE, 0, none⟩))] ∧ firstN (errN b s l) l.length 0 = (((k : Nat) : Int), errN b s l k) ∧ (∀ w, Ext wb w → it.ok w → w.heap[bE]? = some (.cells [.int .i64 (k : Int), .int .i64 (errN b s l k)].toArray 215 (0, 0))) ∧ StX [] w0 w' [it]) ∨ ((firstN (errN b s l) l.length 0).2 = 0 ∧ ∃ v it, u = .tuple #[v, .nilIface] ∧ (∀ w, Ext wb w → it.ok w → Sl w 7 RMom v (momL b s l)) ∧ StX [] w0 w' [it])) := by
  refine enterX Tryz.func130 rfl Tryz.ntmps130 rfl ?_
  have hS := St.start w0
  refine seqX ?_
  refine regionX rfl ?_
  refine sbox hS rfl rfl ?_; clear hS; intro b3 w hS
  refine sbox hS rfl rfl ?_; clear hS; intro b4 w hS
  refine salloc hS Tryz.zeroValue167 rfl ?_; clear hS; intro b6 w hS
  refine salloc hS Tryz.zeroValue120 rfl ?_; clear hS; intro b7 w hS
  refine nil ?_
  show Code.wpIn _ _ _ _ _ _ _
  refine seqX ?_
  refine regionX rfl ?_
  refine salloc hS Tryz.zeroValue167 rfl ?_; clear hS; intro b8 w hS
  refine nil ?_
  show Code.wpIn _ _ _ _ _ _ _
  refine seqX ?_
  refine seqX ?_
  refine regionX rfl ?_
  refine sv (yLdBA rfl Tryz.isAgg85 Tryz.sizeOf85 (hS.at _) rfl rfl) ?_
  refine sv (yLdBA rfl Tryz.isAgg87 Tryz.sizeOf87 (hS.at _) rfl rfl) ?_
  refine sv (yMove rfl) ?_
  refine scall Tryz.call144 (.cons rfl (.cons rfl (.cons rfl .nil))) c_moments ?_
  rintro _ w ⟨x3, x4, x5, rfl, hM⟩; replace hS := hS.call hM; clear hM
  replace hS := hS.nilrow 174 7
  replace hS : StX [] w0 w ([blk x4 [.int .i64 s.volume, sqv] 87, blk x3 [.slice ar b.rows.length cr, .int .i64 b.leak, .int .i64 b.crest, .int .i64 b.over, .slice ap b.pols.length cp] 85, blk x5 [.slice al l.length cl] 94] ++ [rowI (.slice none 0 0) 174 7 (([] : List Mom)).length ((([] : List Mom) : List Mom).map Prod.fst).flatten, blk b8 [.slice none 0 0] 167, blk b7 [.nilIface] 120, blk b6 [.slice none 0 0] 167]) := ((((((((hS).front (A := [_, _, _, _, _, _])).front (A := [_, _, _, _, _, _])).front (A := [_, _, _, _, _, _])).front (A := [_, _, _])).front (A := [_, _, _, _])).front (A := [_, _, _, _, _, _])).front (A := [_, _, _, _, _, _])).sub (.cons_cons _ (.cons_cons _ (.cons_cons _ (.cons_cons _ (.cons_cons _ (.cons_cons _ (.cons_cons _ (List.nil_sublist _))))))))
  refine nil ?_
  show Code.wpIn _ _ _ _ _ _ _
  refine blockX ?_
  refine rangeG (R := [blk x4 [.int .i64 s.volume, sqv] 87, blk x3 [.slice ar b.rows.length cr, .int .i64 b.leak, .int .i64 b.crest, .int .i64 b.over, .slice ap b.pols.length cp] 85, blk x5 [.slice al l.length cl] 94]) (L0 := [rowI (.slice none 0 0) 174 7 (([] : List Mom)).length ((([] : List Mom) : List Mom).map Prod.fst).flatten, blk b8 [.slice none 0 0] 167, blk b7 [.nilIface] 120, blk b6 [.slice none 0 0] 167]) (ps := [15, 16]) rfl Tryz.call164 hS (it_moments he hb h2 hl hok hso) (fun cc pre L => (cc = none ∧ (∀ z ∈ pre, z.2 = .nilIface) ∧ ∃ v, L = [rowI (v) 174 7 (pre).length ((pre : List Mom).map Prod.fst).flatten, blk b8 [v] 167, blk b7 [.nilIface] 120, blk b6 [.slice none 0 0] 167]) ∨ (cc = some .ret ∧ ∃ q z v, pre = q ++ [z] ∧ notNil z.2 = true ∧ L = [rowI (v) 174 7 (q).length ((q : List Mom).map Prod.fst).flatten, blk b8 [v] 167, blk b7 [z.2] 120, blk b6 [.slice none 0 0] 167])) (.inl ⟨rfl, fun _ h => (nomatch h), _, rfl⟩) (fun _ => rfl) ?_ ?_ ?_
  ·
    clear hS
    intro yl pre y w L M M0 hT hsub hcb hS
    obtain ⟨-, hni, v, rfl⟩ := hcb.resolve_right (fun h => by cases h.1)
    replace hS : StX [] w0 w (rowI (v) 174 7 (pre).length ((pre : List Mom).map Prod.fst).flatten :: blk b8 [v] 167 :: blk b7 [.nilIface] 120 :: blk b6 [.slice none 0 0] 167 :: M) := hS
    obtain ⟨i0, q0, n0, c0, i1, i2, i3, i4, q1, n1, c1, yv, rfl, hyv⟩ := mom_shape (hT w (he.trans hS.ext) (fun i hi => hS.ok i (by simp [hsub i hi])))
    have hpl : pre.length < 300 := by have := mom_len (hT w (he.trans hS.ext) (fun i hi => hS.ok i (by simp [hsub i hi]))); rw [List.length_append] at this; simp at this; omega
    refine seqX ?_
    refine regionX rfl ?_
    refine salloc hS Tryz.zeroValue174 rfl ?_; clear hS; intro b9 w hS
    refine sst hS rfl rfl Tryz.sizeOf174 rfl rfl rfl rfl ?_; clear hS; intro w hS
    refine nil ?_
    show Code.wpIn _ _ _ _ _ _ _
    refine regionX rfl ?_
    refine sv (yAsg rfl) ?_
    refine nil ?_
    refine ⟨_, [blk b9 [.int .i64 i0, .slice q0 n0 c0, .int .i64 i1, .int .i64 i2, .int .i64 i3, .int .i64 i4, .slice q1 n1 c1] 174, rowI (v) 174 7 (pre).length ((pre : List Mom).map Prod.fst).flatten, blk b8 [v] 167, blk b7 [.nilIface] 120, blk b6 [.slice none 0 0] 167], rfl, hS, ?_⟩
    clear hS hsub; clear M; intro M w hsub hS; replace hS : StX [] w0 w (blk b9 [.int .i64 i0, .slice q0 n0 c0, .int .i64 i1, .int .i64 i2, .int .i64 i3, .int .i64 i4, .slice q1 n1 c1] 174 :: rowI (v) 174 7 (pre).length ((pre : List Mom).map Prod.fst).flatten :: blk b8 [v] 167 :: blk b7 [.nilIface] 120 :: blk b6 [.slice none 0 0] 167 :: M) := hS
    refine blockX ?_
    refine seqX ?_
    refine seqX ?_
    refine regionX rfl ?_
    refine sv (yMove rfl) ?_
    refine sv (yNeNil rfl rfl Tryz.underlying120 hyv) ?_
    refine nil ?_
    show Code.wpIn _ _ _ _ _ _ _
    refine condX rfl (fun c18 => ?_) (fun c18 => ?_)
    ·
      obtain ⟨Ty, py, rfl⟩ := hyv.resolve_left (fun h => by rw [h] at c18; cases c18)
      refine seqX ?_
      refine regionX rfl ?_
      refine sv (yMove rfl) ?_
      refine sst hS rfl rfl Tryz.sizeOf167 rfl rfl rfl rfl ?_; clear hS; intro w hS
      refine sst hS rfl rfl Tryz.sizeOf120 rfl rfl rfl rfl ?_; clear hS; intro w hS
      refine nil ?_
      show Code.wpIn _ _ _ _ _ _ _
      refine wpIn_ret (thenR (blockR ?_))
      exact ⟨_, .inr ⟨rfl, pre, _, v, rfl, c18, rfl⟩, hS.sub (.cons _ (List.Sublist.refl _))⟩
    ·
      refine skipX ?_
      show Code.wpIn _ _ _ _ _ _ _
      refine regionX rfl ?_
      refine sv (yLdB rfl Tryz.isAgg167 (hS.at _) rfl) ?_
      refine sv (yLdBA rfl Tryz.isAgg174 Tryz.sizeOf174 (hS.at _) rfl rfl) ?_
      refine sbslice hS Tryz.underlying167 Tryz.sizeOf174 rfl Tryz.zeroValue174 rfl (.cons rfl rfl .nil) rfl ?_; clear hS; intro b22 w hS
      refine sapp (bytes := 88) (size := 7) (v := v) (m := 1) hS rfl rfl Tryz.underlying167 ti174 rfl rfl rfl rfl (by decide) (blk_cells (hS.at _)) rfl rfl (by omega) (by omega) ?_; clear hS; intro v23 w hS
      obtain ⟨a23, c23, rfl⟩ := row_shape (hS.row v23)
      refine sst hS rfl rfl Tryz.sizeOf167 rfl rfl rfl rfl ?_; clear hS; intro w hS
      refine nil ?_
      exact ⟨_, (.inl ⟨rfl, (by intro z hz; rcases List.mem_append.1 hz with h | h; exact hni z h; rw [List.mem_singleton.1 h]; exact nil_of hyv c18), _, rfl⟩), (by rw [List.map_append, List.flatten_append, List.length_append]; exact hS.sub (.cons _ (.cons _ (List.Sublist.refl _))))⟩
  ·
    clear hS
    intro D w L xs MZ hZ hcb hS
    obtain ⟨-, hni, v, rfl⟩ := hcb.resolve_right (fun h => by cases h.1)
    have hz : ∀ w, Ext wb w → (∀ it ∈ MZ, it.ok w) → OkTr b s l w xs ∧ xs.length = l.length := fun w e h => (hZ w e h).resolve_right (fun he => by obtain ⟨q, bE, rfl, -⟩ := he; have := hni _ (List.mem_append_right _ (List.mem_cons_self ..)); cases this)
    have hz0 : (firstN (errN b s l) l.length 0).2 = 0 := by
      obtain ⟨k1, k2⟩ := hz w (he.trans hS.ext) (fun i hi => hS.ok i (by simp [hi]))
      exact k1.err k2
    replace hS := hS.pack1
    replace hS : StX [] w0 w [obj D (.deferred (some [])), packI MZ, rowI (v) 174 7 (xs).length ((xs : List Mom).map Prod.fst).flatten, blk b8 [v] 167, blk b7 [.nilIface] 120, blk b6 [.slice none 0 0] 167] := hS
    obtain ⟨av, cv, rfl⟩ := row_shape (hS.row v)
    show Code.wpIn _ _ _ _ _ _ _
    refine seqX ?_
    refine regionX rfl ?_
    refine sv (yLdB rfl Tryz.isAgg167 (hS.at _) rfl) ?_
    refine sst hS rfl rfl Tryz.sizeOf167 rfl rfl rfl rfl ?_; clear hS; intro w hS
    refine sst hS rfl rfl Tryz.sizeOf120 rfl rfl rfl rfl ?_; clear hS; intro w hS
    refine nil ?_
    show Code.wpIn _ _ _ _ _ _ _
    refine wpIn_ret ?_
    refine leafD hS (fun w hS => (resV2 rfl (rc1 rfl Tryz.isAgg167 (hS.at _) rfl) (rc1 rfl Tryz.isAgg120 (hS.at _) rfl))) (fun w hS => ?_)
    exact .inr ⟨hz0, .slice av xs.length cv, packI [packI MZ, rowI (.slice av xs.length cv) 174 7 (xs).length ((xs : List Mom).map Prod.fst).flatten], rfl, fun w e h => mom_sl (hz w e (h _ (List.mem_cons_self ..))).1 (hz w e (h _ (List.mem_cons_self ..))).2 (h _ (List.mem_cons_of_mem _ (List.mem_cons_self ..))), StX.pack (M := [packI MZ, rowI (.slice av xs.length cv) 174 7 (xs).length ((xs : List Mom).map Prod.fst).flatten]) (L := []) (hS.sub (.cons _ (.cons_cons _ (.cons_cons _ (List.nil_sublist _)))))⟩
  ·
    intro D w L cc pre MZ hT hcb hS
    obtain ⟨hcc, q, z, v, rfl, hnz, rfl⟩ := hcb.resolve_left (fun h => by cases h.1)
    obtain rfl := Option.some.inj hcc
    have key : ∀ w, Ext wb w → (∀ it ∈ MZ, it.ok w) → ErTr b s l 212 215 w (q ++ [z]) := fun w e h => (hT w e h).resolve_left (fun ho => by have := ho.nils z (by simp); rw [this] at hnz; cases hnz)
    obtain ⟨bE, hz, hf, hne, -⟩ := (key w (he.trans hS.ext) (fun i hi => hS.ok i (by simp [hi]))).get
    subst hz
    replace hS := hS.pack1
    replace hS : StX [] w0 w [obj D (.deferred (some [])), packI MZ, rowI (v) 174 7 (q).length ((q : List Mom).map Prod.fst).flatten, blk b8 [v] 167, blk b7 [.iface 212 (.pointer (some ⟨bE, 0, none⟩))] 120, blk b6 [.slice none 0 0] 167] := hS
    refine wpIn_ret (blockR (thenR ?_))
    refine leafD hS (fun w hS => (resV2 rfl (rc1 rfl Tryz.isAgg167 (hS.at b6) rfl) (rc1 rfl Tryz.isAgg120 (hS.at b7) rfl))) (fun w hS => ?_)
    refine .inl ⟨by rw [hf]; exact hne, bE, q.length, packI MZ, rfl, hf, fun w e h => ?_, hS.sub (.cons _ (.cons_cons _ (List.nil_sublist _)))⟩
    obtain ⟨bE2, h2, -, -, h3⟩ := (key w e h).get
    simp at h2
    subst h2
    exact h3
end Go.Proofs.YtmoilbakmlekbaaGreatDoor

/- part Aw57 -/
namespace Go.Proofs.YtmoilbakmlekbaaGreatDoor
open Go Bx
set_option maxHeartbeats 1000000 in
/-- barrage/basin.run -/
theorem c_run {b : Bas} {s : BSt} {l : List BTk} {cs qs : List Value} {lv : Value} {wb w0 : World} (hg : Glb wb) (he : Ext wb w0) (h : RBas wb cs b) (hsq : RBst wb qs s) (hl : Sl wb 3 RBtk lv l) : CE Tryz.prog 99 #[.agg cs.toArray, .agg qs.toArray, lv] w0 (fun u w' => (runE b s l ≠ 0 ∧ u = .tuple #[.slice none 0 0, .int .i64 (runE b s l)] ∧ Ext w0 w') ∨ (runE b s l = 0 ∧ ∃ v it, u = .tuple #[v, .int .i64 0] ∧ (∀ w, Ext wb w → it.ok w → Sl w 7 RMom v (momL b s l)) ∧ StX [] w0 w' [it])) := by
  obtain ⟨rv, pv, rfl, hsr, hlk, hcr, hov, hsp⟩ := id h
  obtain ⟨ar, cr, rfl, hrcap, hrmx, hrel⟩ := id hsr
  obtain ⟨ap, cp, rfl, hpcap, hpmx, hpel⟩ := id hsp
  obtain ⟨fv, rfl, hsv, hsf, hsm⟩ := id hsq
  obtain ⟨af, cf, rfl, hfcap, hfmx, hfel⟩ := id hsf
  obtain ⟨al, cl, rfl, hlcap, hlmx, hlel⟩ := id hl
  refine enter Tryz.func99 rfl Tryz.ntmps99 rfl ?_
  have hS := St.start w0
  refine seq ?_
  refine region ?_
  refine sbox hS rfl rfl ?_; clear hS; intro b3 w hS
  refine sbox hS rfl rfl ?_; clear hS; intro b4 w hS
  refine sv (yAsg rfl) ?_
  refine sv (yAsg rfl) ?_
  refine nil ?_
  show Code.wp _ _ _ _ _
  refine seq ?_
  refine region ?_
  refine sv (yLdBA rfl Tryz.isAgg85 Tryz.sizeOf85 (hS.at _) rfl rfl) ?_
  refine sv (yLdBA rfl Tryz.isAgg87 Tryz.sizeOf87 (hS.at _) rfl rfl) ?_
  refine scall Tryz.call96 (.cons rfl (.cons rfl .nil)) (c_CheckState (h.ext (he.trans hS.ext)) (hsq.ext (he.trans hS.ext))) ?_
  rintro _ w ⟨rfl, hE⟩; replace hS := hS.step hE; clear hE
  refine sv (yAsg rfl) ?_
  refine nil ?_
  show Code.wp _ _ _ _ _
  refine seqJ (n := 40) (fun f w => ∃ (e : Int), f 2 = .slice al l.length cl ∧ f 3 = .pointer (some ⟨b3, 0, none⟩) ∧ f 4 = .pointer (some ⟨b4, 0, none⟩) ∧ f 8 = .int .i64 e ∧ StX [] w0 w ((blk b4 [.int .i64 s.volume, .slice af s.filled.length cf] 87 :: blk b3 [.slice ar b.rows.length cr, .int .i64 b.leak, .int .i64 b.crest, .int .i64 b.over, .slice ap b.pols.length cp] 85 :: [])) ∧ (e = if stB b s ≠ 0 then stB b s else if (300 : Int) < l.length then 3 else 0) ∧ True) ?_ ?_
  ·
    refine seq ?_
    refine region ?_
    refine sv (yMove rfl) ?_
    refine sv (yEql rfl rfl) ?_
    refine sv (yMove rfl) ?_
    refine sg rfl rfl rfl (fun g => (yMove rfl)) (fun v18 g18 => ?_)
    refine sg rfl rfl rfl (fun g => (yLen (g18.1 g) Tryz.underlying94)) (fun v19 g19 => ?_)
    refine sg rfl rfl rfl (fun g => (yGtr (g19.1 g) rfl)) (fun v20 g20 => ?_)
    refine sv (yAnd rfl (fun hB => (g20.1 hB)) rfl) ?_
    refine nil ?_
    show Code.wp _ _ _ _ _
    refine cond rfl (fun c21 => ?_) (fun c21 => ?_)
    ·
      simp only [BS, ne_eq] at c21
      refine region ?_
      refine sv (yAsg rfl) ?_
      refine nil ?_
      exact ⟨_, rfl, _, rfl, rfl, rfl, rfl, hS, (by rw [if_neg (by omega), if_pos (by omega)]), trivial⟩
    ·
      simp only [BS, ne_eq] at c21
      refine skip ?_
      exact ⟨_, rfl, _, rfl, rfl, rfl, rfl, hS, (by split; rfl; rw [if_neg (by omega)]; omega), trivial⟩
  ·
    clear hS; rintro f w ⟨e, h2, h3, h4, h8, hS, he1, -⟩
    refine seq ?_
    refine seq ?_
    refine region ?_
    refine sv (yMove h8) ?_
    refine sv (yNeq rfl rfl) ?_
    refine nil ?_
    show Code.wp _ _ _ _ _
    refine cond rfl (fun c23 => ?_) (fun c23 => ?_)
    ·
      simp only [BS, ne_eq] at c23
      refine seq ?_
      refine region ?_
      refine sv (yMove h8) ?_
      refine sv (yAsg rfl) ?_
      refine sv (yAsg rfl) ?_
      refine nil ?_
      show Code.wp _ _ _ _ _
      refine wp_ret (thenR ?_)
      refine retQ (res2 rfl rfl rfl) ?_
      have hE : runE b s l = e := by
        subst he1
        unfold runE
        split
        · rfl
        · next h1 => split
                     · rfl
                     · next h3 => exact absurd (by rw [if_neg h1, if_neg h3]) c23
      exact .inl ⟨by rw [hE]; exact c23, by rw [hE]; rfl, hS.ext⟩
    ·
      simp only [BS, ne_eq] at c23
      have hst : stB b s = 0 := by
        apply Decidable.byContradiction
        intro hc
        rw [if_pos hc] at he1
        omega
      rw [if_neg (fun k => k hst)] at he1
      have hln : l.length ≤ 300 := by
        apply Decidable.byContradiction
        intro hc
        rw [if_pos (by omega)] at he1
        omega
      obtain ⟨hok, hso⟩ := st_ok hst
      have hre : runE b s l = (firstN (errN b s l) l.length 0).2 := by unfold runE; rw [if_neg (fun k => k hst), if_neg (by omega)]
      refine skip ?_
      show Code.wp _ _ _ _ _
      refine seq ?_
      refine region ?_
      refine sv (yLdBA h3 Tryz.isAgg85 Tryz.sizeOf85 (hS.at _) rfl rfl) ?_
      refine sv (yLdBA h4 Tryz.isAgg87 Tryz.sizeOf87 (hS.at _) rfl rfl) ?_
      refine sv (yMove h2) ?_
      refine scall Tryz.call130 (.cons rfl (.cons rfl (.cons rfl .nil))) (c_all (he.trans hS.ext) h hsq hl hok hso hln) ?_
      rintro _ w (⟨hne, bE, kE, it, rfl, hf, hit, hM⟩ | ⟨h0, v, it, rfl, hit, hM⟩)
      ·
        replace hS := hS.call1 hM; clear hM
        refine sv (yMove rfl) ?_
        refine sv (yExt rfl rfl) ?_
        refine sv (yExt rfl rfl) ?_
        refine sv (yAsg rfl) ?_
        refine sv (yAsg rfl) ?_
        refine nil ?_
        show Code.wp _ _ _ _ _
        refine seq ?_
        refine seq ?_
        refine region ?_
        refine salloc hS Tryz.zeroValue212 rfl ?_; clear hS; intro b11 w hS
        refine sst hS rfl rfl Tryz.sizeOf212 rfl rfl rfl rfl ?_; clear hS; intro w hS
        refine nil ?_
        show Code.wp _ _ _ _ _
        refine seq ?_
        refine region ?_
        refine sv (yMove rfl) ?_
        refine sv (yIfaceG rfl Tryz.underlying213 rfl) ?_
        refine scall Tryz.call56 (.cons rfl (.cons rfl .nil)) (c_AsHitF hS (hg.ext (he.trans hS.ext))) ?_
        rintro _ w ⟨rfl, hM⟩; replace hS := hM; clear hM
        refine nil ?_
        show Code.wp _ _ _ _ _
        refine cond rfl (fun c34 => ?_) (fun c34 => ?_)
        ·
          refine seq ?_
          refine region_draw mixed (by kernel_rfl) hS ?_
          refine qv (fun w hS => (yLdB rfl Tryz.isAgg212 (hS.at _) rfl)) ?_
          refine qv (fun w hS => (yNil rfl)) ?_
          refine qv (fun w hS => (fa215_1 rfl)) ?_
          refine qv (fun w hS => (yLdB rfl Tryz.isAgg28 (hit _ (he.trans hS.ext) (hS.ok it (by simp))) rfl)) ?_
          refine qv (fun w hS => (yAsg rfl)) ?_
          refine qv (fun w hS => (yAsg rfl)) ?_
          clear hS; refine qnil (fun w hS => ?_)
          show Code.wp _ _ _ _ _
          refine wp_ret (thenR ?_)
          refine retQ (res2 rfl rfl rfl) ?_
          have hE : runE b s l = errN b s l kE := by rw [hre, hf]
          exact .inl ⟨by rw [hre]; exact hne, by rw [hE]; rfl, hS.ext⟩
        ·
          exact absurd c34 (by decide)
      ·
        replace hS := hS.call1 hM; clear hM
        refine sv (yMove rfl) ?_
        refine sv (yExt rfl rfl) ?_
        refine sv (yExt rfl rfl) ?_
        refine sv (yAsg rfl) ?_
        refine sv (yAsg rfl) ?_
        refine nil ?_
        show Code.wp _ _ _ _ _
        refine seq ?_
        refine seq ?_
        refine region ?_
        refine salloc hS Tryz.zeroValue212 rfl ?_; clear hS; intro b11 w hS
        refine sst hS rfl rfl Tryz.sizeOf212 rfl rfl rfl rfl ?_; clear hS; intro w hS
        refine nil ?_
        show Code.wp _ _ _ _ _
        refine seq ?_
        refine region ?_
        refine sv (yMove rfl) ?_
        refine sv (yIfaceG rfl Tryz.underlying213 rfl) ?_
        refine scall Tryz.call56 (.cons rfl (.cons rfl .nil)) c_AsNil ?_
        rintro _ w ⟨rfl, hE⟩; replace hS := hS.step hE; clear hE
        refine nil ?_
        show Code.wp _ _ _ _ _
        refine cond rfl (fun c34 => ?_) (fun c34 => ?_)
        ·
          exact absurd c34 (by decide)
        ·
          refine skip ?_
          show Code.wp _ _ _ _ _
          refine seq ?_
          refine region ?_
          refine sv (yMove rfl) ?_
          refine sv (yAsg rfl) ?_
          refine sv (yAsg rfl) ?_
          refine nil ?_
          show Code.wp _ _ _ _ _
          refine wp_ret ?_
          refine retQ (res2 rfl rfl rfl) ?_
          exact .inr ⟨hre.trans h0, v, it, rfl, hit, hS.sub (.cons _ (.cons_cons _ (List.nil_sublist _)))⟩
/-- barrage/basin.Floods closure 1 -/
theorem c_Floods1 {x : BSt × BFl} {cs : List Value} {i q : Nat} {T : TypeId} {w0 : World} (h : RMom w0 cs x) (hb : w0.heap[q]? = some (.cells [.int .i64 (i : Int)].toArray T (0, 0))) (hi : i < x.2.taken.length) : CV Tryz.prog 101 #[.agg cs.toArray, .pointer (some ⟨q, 0, none⟩)] w0 (.bool (decide (0 < flB x.2.taken i))) := by
  obtain ⟨fv, tv, rfl, -, tv2, he, hsl⟩ := id h
  obtain rfl : tv2 = tv := by unfold flC at he; simp at he; exact he.symm
  obtain ⟨a, cap, rfl, hcap, hmx, hel⟩ := id hsl
  obtain ⟨bx, ox, cx, hax, hlx, hcx, hRx, -⟩ := sl_at hsl (flB_get hi)
  obtain ⟨rfl, -⟩ := hRx
  refine enter Tryz.func101 rfl Tryz.ntmps101 rfl ?_
  have hS := St.start w0
  refine seq ?_
  refine region ?_
  refine sbox hS rfl rfl ?_; clear hS; intro b2 w hS
  refine sv (yAsg rfl) ?_
  refine nil ?_
  show Code.wp _ _ _ _ _
  refine seq ?_
  refine region ?_
  refine sv (fa174_1 rfl) ?_
  refine sv (fa172_4 rfl) ?_
  refine sv (yLdB rfl Tryz.isAgg34 (hS.at _) rfl) ?_
  refine sv (yLdB rfl Tryz.isAgg3 (hS.ext.get hb) rfl) ?_
  refine sv (yIxa rfl hax rfl Tryz.runUnderlying34 Tryz.sizeOf3 (by omega) (by omega)) ?_
  refine sv (yLd rfl Tryz.isAgg3 ((hcx.ext hS.ext).one)) ?_
  refine sv (yGtr rfl rfl) ?_
  refine sv (yAsg rfl) ?_
  refine nil ?_
  show Code.wp _ _ _ _ _
  refine wp_ret ?_
  exact retV (res1 rfl rfl) hS.ext
/-- slices.IndexFunc   barrage/basin.moment,barrage/basin.moment  -/
theorem c_IndexMom {l : List (BSt × BFl)} {p : BSt × BFl → Bool} {v : Value} {g : Nat} {cl : List Value} {w0 : World} (hsl : Sl w0 7 RMom v l) (hcall : ∀ ys w, (callFunc g ys).run Tryz.prog w = .ok (.enter g ys) w) (hp : ∀ x cs w, x ∈ l → Ext w0 w → RMom w cs x → CV Tryz.prog g (.agg cs.toArray :: cl).toArray w (.bool (p x))) : CV Tryz.prog 100 #[v, .func (.func g) #[] cl.toArray] w0 (.int .i64 (idxF p l 0)) := by
  obtain ⟨a, cap, rfl, hcap, hmx, hel⟩ := hsl
  refine enter Tryz.func100 rfl Tryz.ntmps100 rfl ?_
  have hS := St.start w0
  refine seq ?_
  refine region ?_
  refine sv (yAsg rfl) ?_
  refine nil ?_
  show Code.wp _ _ _ _ _
  refine seq ?_
  refine seq ?_
  refine region ?_
  refine sv (yMove rfl) ?_
  refine sv (yLen rfl Tryz.underlying167) ?_
  refine sv (yMove rfl) ?_
  refine nil ?_
  show Code.wp _ _ _ _ _
  refine block ?_
  refine loop (fun f w zz => ∃ (k : Nat), f 0 = .slice a l.length cap ∧ f 1 = .func (.func g) #[] cl.toArray ∧ f 7 = .int .i64 (l.length : Int) ∧ f 8 = .int .i64 (k : Int) ∧ StX [] w0 w [] ∧ (k ≤ l.length) ∧ (idxF p l 0 = idxF p (l.drop k) k) ∧ zz = l.length - k) _ ⟨_, rfl, 0, rfl, rfl, rfl, rfl, hS, (Nat.zero_le _), (rfl), rfl⟩ ?_
  clear hS
  rintro f w _ ⟨k, h0, h1, h7, h8, hS, hk, hI, rfl⟩
  refine seq ?_
  refine region ?_
  refine sv (yLss h8 h7) ?_
  refine nil ?_
  show Code.wp _ _ _ _ _
  refine seq ?_
  refine cond rfl (fun c9 => ?_) (fun c9 => ?_)
  ·
    simp only [BS, ne_eq] at c9
    refine skip ?_
    show Code.wp _ _ _ _ _
    refine seq ?_
    refine block ?_
    refine seq ?_
    refine region ?_
    refine sv (yMove h8) ?_
    refine sv (yAsg rfl) ?_
    refine nil ?_
    show Code.wp _ _ _ _ _
    refine seq ?_
    refine region ?_
    obtain ⟨x, hx, hd⟩ := drop_of (l := l) (k := k) (by omega)
    obtain ⟨b, o, cs, ha, hlen, hcs, hR⟩ := hel k (by omega)
    obtain rfl : x = l[k] := (List.getElem?_eq_some_iff.1 hx).2.symm
    refine sv (yMove h1) ?_
    refine sv (yMove h0) ?_
    refine sv (yMove rfl) ?_
    refine sv (yIxa rfl ha rfl Tryz.runUnderlying167 Tryz.sizeOf174 (by omega) (by omega)) ?_
    refine sv (yLdA rfl Tryz.isAgg174 Tryz.sizeOf174 (hcs.ext hS.ext) hlen) ?_
    refine scallf rfl hcall (.cons rfl .nil) (hp _ _ _ (List.getElem_mem _) hS.ext (RMom.stays _ _ _ _ hS.ext hR)) ?_
    rintro _ w ⟨rfl, hE⟩; replace hS := hS.step hE; clear hE
    refine nil ?_
    show Code.wp _ _ _ _ _
    refine cond rfl (fun c16 => ?_) (fun c16 => ?_)
    ·
      refine seq ?_
      refine region ?_
      refine sv (yMove rfl) ?_
      refine sv (yAsg rfl) ?_
      refine nil ?_
      show Code.wp _ _ _ _ _
      refine wp_ret (blockR (thenR (thenR (blockR (thenR ?_)))))
      exact retV (res1 rfl (by rw [hI, hd, idxF, if_pos c16]; rfl)) hS.ext
    ·
      refine skip ?_
      show Code.wp _ _ _ _ _
      refine region ?_
      refine sv (yAdd h8 rfl ⟨by omega, by omega⟩) ?_
      refine sv (yMove rfl) ?_
      refine nil ?_
      exact ⟨_, _, rfl, ⟨k + 1, h0, h1, h7, rfl, hS, (by omega), (by rw [hI, hd, idxF, if_neg (by simp [c16])]; rfl), rfl⟩, by omega⟩
  ·
    simp only [BS, ne_eq] at c9
    refine exit ?_
    show Code.wp _ _ _ _ _
    refine seq ?_
    refine region ?_
    refine sv (yAsg rfl) ?_
    refine nil ?_
    show Code.wp _ _ _ _ _
    obtain rfl : k = l.length := by omega
    refine wp_ret ?_
    exact retV (res1 rfl (by rw [hI, List.drop_length]; rfl)) hS.ext
set_option maxHeartbeats 1000000 in
/-- barrage/basin.Floods -/
theorem c_Floods {b : Bas} {s : BSt} {l : List BTk} {cs qs : List Value} {lv : Value} {w0 : World} (hg : Glb w0) (h : RBas w0 cs b) (hsq : RBst w0 qs s) (hl : Sl w0 3 RBtk lv l) : CE Tryz.prog 46 #[.agg cs.toArray, .agg qs.toArray, lv] w0 (fun u w' => (runE b s l ≠ 0 ∧ u = .tuple #[.slice none 0 0, .int .i64 (runE b s l)] ∧ Ext w0 w') ∨ (runE b s l = 0 ∧ ∃ v, u = .tuple #[v, .int .i64 0] ∧ StX [] w0 w' [rowI v 3 1 b.pols.length ((floodsF b s l).flatMap Bx.encI)])) := by
  obtain ⟨rv, pv, rfl, hsr, hlk, hcr, hov, hsp⟩ := id h
  obtain ⟨ar, cr, rfl, hrcap, hrmx, hrel⟩ := id hsr
  obtain ⟨ap, cp, rfl, hpcap, hpmx, hpel⟩ := id hsp
  obtain ⟨fv, rfl, hsv, hsf, hsm⟩ := id hsq
  obtain ⟨af, cf, rfl, hfcap, hfmx, hfel⟩ := id hsf
  obtain ⟨al, cl, rfl, hlcap, hlmx, hlel⟩ := id hl
  refine enter Tryz.func46 rfl Tryz.ntmps46 rfl ?_
  have hS := St.start w0
  refine seq ?_
  refine region ?_
  refine sbox hS rfl rfl ?_; clear hS; intro b3 w hS
  refine sbox hS rfl rfl ?_; clear hS; intro b4 w hS
  refine sv (yAsg rfl) ?_
  refine sv (yAsg rfl) ?_
  refine nil ?_
  show Code.wp _ _ _ _ _
  refine seq ?_
  refine region ?_
  refine sv (yLdBA rfl Tryz.isAgg85 Tryz.sizeOf85 (hS.at _) rfl rfl) ?_
  refine sv (yLdBA rfl Tryz.isAgg87 Tryz.sizeOf87 (hS.at _) rfl rfl) ?_
  refine sv (yMove rfl) ?_
  refine scall Tryz.call99 (.cons rfl (.cons rfl (.cons rfl .nil))) (c_run hg hS.ext h hsq hl) ?_
  rintro _ w (⟨hne, rfl, hM⟩ | ⟨h0, v, it, rfl, hit, hM⟩)
  ·
    replace hS := hS.step hM; clear hM
    refine sv (yMove rfl) ?_
    refine sv (yExt rfl rfl) ?_
    refine sv (yExt rfl rfl) ?_
    refine sv (yAsg rfl) ?_
    refine sv (yAsg rfl) ?_
    refine nil ?_
    show Code.wp _ _ _ _ _
    refine seq ?_
    refine seq ?_
    refine region ?_
    refine sv (yMove rfl) ?_
    refine sv (yNeq rfl rfl) ?_
    refine nil ?_
    show Code.wp _ _ _ _ _
    refine cond rfl (fun c20 => ?_) (fun c20 => ?_)
    ·
      simp only [BS, ne_eq] at c20
      refine seq ?_
      refine region ?_
      refine sv (yMove rfl) ?_
      refine sv (yAsg rfl) ?_
      refine sv (yAsg rfl) ?_
      refine nil ?_
      show Code.wp _ _ _ _ _
      refine wp_ret (thenR ?_)
      refine retQ (res2 rfl rfl rfl) ?_
      exact .inl ⟨hne, rfl, hS.ext⟩
    ·
      simp only [BS, ne_eq] at c20
      exact absurd c20 hne
  ·
    replace hS := hS.call1 hM; clear hM
    refine sv (yMove rfl) ?_
    refine sv (yExt rfl rfl) ?_
    refine sv (yExt rfl rfl) ?_
    refine sv (yAsg rfl) ?_
    refine sv (yAsg rfl) ?_
    refine nil ?_
    show Code.wp _ _ _ _ _
    refine seq ?_
    refine seq ?_
    refine region ?_
    refine sv (yMove rfl) ?_
    refine sv (yNeq rfl rfl) ?_
    refine nil ?_
    show Code.wp _ _ _ _ _
    refine cond rfl (fun c20 => ?_) (fun c20 => ?_)
    ·
      exact absurd c20 (by decide)
    ·
      have hok := (run_ok h0).1
      have hnp := hok.npol
      refine skip ?_
      show Code.wp _ _ _ _ _
      refine seq ?_
      refine region ?_
      refine sv (yAsg rfl) ?_
      refine nil ?_
      show Code.wp _ _ _ _ _
      refine seq ?_
      refine seq ?_
      refine region ?_
      refine sv (fa85_4 rfl) ?_
      refine sv (yLdB rfl Tryz.isAgg83 (hS.at _) rfl) ?_
      refine sv (yLen rfl Tryz.underlying83) ?_
      refine sv (yMove rfl) ?_
      refine nil ?_
      show Code.wp _ _ _ _ _
      refine block ?_
      refine loop (fun f w zz => ∃ (k : Nat) (fv : Value), f 8 = v ∧ f 10 = fv ∧ f 24 = .int .i64 (b.pols.length : Int) ∧ f 25 = .int .i64 (k : Int) ∧ StX [] w0 w ((rowI (fv) 3 1 k (((List.range k).map (firstFl b s l)).flatMap Bx.encI) :: it :: blk b4 [.int .i64 s.volume, .slice af s.filled.length cf] 87 :: blk b3 [.slice ar b.rows.length cr, .int .i64 b.leak, .int .i64 b.crest, .int .i64 b.over, .slice ap b.pols.length cp] 85 :: [])) ∧ (k ≤ b.pols.length) ∧ zz = b.pols.length - k) _ ⟨_, rfl, 0, _, rfl, rfl, rfl, rfl, (hS.nilrow 3 1), (Nat.zero_le _), rfl⟩ ?_
      clear hS
      rintro f w _ ⟨k, fv, h8, h10, h24, h25, hS, hk, rfl⟩
      refine seq ?_
      refine region ?_
      refine sv (yLss h25 h24) ?_
      refine nil ?_
      show Code.wp _ _ _ _ _
      refine seq ?_
      refine cond rfl (fun c26 => ?_) (fun c26 => ?_)
      ·
        simp only [BS, ne_eq] at c26
        refine skip ?_
        show Code.wp _ _ _ _ _
        refine seq ?_
        refine block ?_
        refine seq ?_
        refine region ?_
        refine sv (yMove h25) ?_
        refine salloc hS Tryz.zeroValue3 rfl ?_; clear hS; intro b11 w hS
        refine sst hS rfl rfl Tryz.sizeOf3 rfl rfl rfl rfl ?_; clear hS; intro w hS
        refine nil ?_
        show Code.wp _ _ _ _ _
        refine region ?_
        refine sv (yMove h10) ?_
        refine sv (yMove h8) ?_
        refine sv (yFn (.cons rfl .nil)) ?_
        refine scall Tryz.call100 (.cons rfl (.cons rfl .nil)) (show CV _ _ _ _ (.int .i64 (firstFl b s l k)) from by rw [← first_idx]; exact c_IndexMom (hit _ hS.ext (hS.ok it (by simp))) Tryz.call101 (fun x cs w hx e hR => c_Floods1 hR (e.get (hS.at b11)) (by rw [mom_taken hx]; omega))) ?_
        rintro _ w ⟨rfl, hE⟩; replace hS := hS.step hE; clear hE
        refine sbslice hS Tryz.underlying34 Tryz.sizeOf3 rfl Tryz.zeroValue3 rfl (.cons rfl rfl .nil) rfl ?_; clear hS; intro b32 w hS
        refine sapp (bytes := 8) (size := 1) (v := fv) (m := 1) hS rfl rfl Tryz.underlying34 ti3 rfl rfl rfl rfl (by decide) (blk_cells (hS.at _)) rfl rfl (by omega) (by omega) ?_; clear hS; intro v33 w hS
        refine sv (yAsg rfl) ?_
        refine nil ?_
        show Code.wp _ _ _ _ _
        refine region ?_
        refine sv (yAdd h25 rfl ⟨by omega, by omega⟩) ?_
        refine sv (yMove rfl) ?_
        refine nil ?_
        exact ⟨_, _, rfl, ⟨k + 1, _, h8, rfl, h24, rfl, (by rw [List.range_succ, List.map_append, List.flatMap_append]; exact hS.sub (.cons _ (.cons _ (List.Sublist.refl _)))), (by omega), rfl⟩, by omega⟩
      ·
        simp only [BS, ne_eq] at c26
        refine exit ?_
        show Code.wp _ _ _ _ _
        refine seq ?_
        refine region ?_
        refine sv (yMove h10) ?_
        refine sv (yAsg rfl) ?_
        refine sv (yAsg rfl) ?_
        refine nil ?_
        show Code.wp _ _ _ _ _
        refine wp_ret ?_
        refine retQ (res2 rfl rfl rfl) ?_
        obtain rfl : k = b.pols.length := by omega
        exact .inr ⟨h0, fv, rfl, hS.sub (.cons_cons _ (List.nil_sublist _))⟩
end Go.Proofs.YtmoilbakmlekbaaGreatDoor

/- part A43 -/
namespace Bx
open Go Go.RowKit
/-- The first numbers are moved on, the rest not yet. -/
def addP (frm : Int) (l : List Int) (j : Nat) : List Int := (l.take j).map (addF frm) ++ l.drop j
theorem addP_0 (frm : Int) (l : List Int) : addP frm l 0 = l := by simp [addP]
theorem addP_len (frm : Int) (l : List Int) (j : Nat) : (addP frm l j).length = l.length := by simp [addP]; omega
theorem addP_all (frm : Int) (l : List Int) : addP frm l l.length = l.map (addF frm) := by simp [addP]
theorem addP_at {frm : Int} {l : List Int} {j : Nat} {x : Int} (h : l[j]? = some x) : (addP frm l j)[j]? = some x := by
  have hl := (List.getElem?_eq_some_iff.1 h).1
  unfold addP
  rw [List.getElem?_append_right (by simp; omega)]
  simp [Nat.min_eq_left (Nat.le_of_lt hl), h]
theorem addP_succ {frm : Int} {l : List Int} {j : Nat} {x : Int} (h : l[j]? = some x) : addP frm l (j + 1) = (addP frm l j).set j (addF frm x) := by
  have hl := (List.getElem?_eq_some_iff.1 h).1
  obtain ⟨y, hy, hd⟩ := drop_of hl
  obtain rfl : x = y := by rw [h] at hy; exact Option.some.inj hy
  unfold addP
  rw [List.set_append_right _ _ (by simp; omega), hd, take_snoc h, List.map_append]
  have : j - (List.map (addF frm) (List.take j l)).length = 0 := by simp; omega
  rw [this]
  simp
theorem addP_keep {frm : Int} {l : List Int} {j : Nat} {x : Int} (h : l[j]? = some x) (hx : addF frm x = x) : addP frm l (j + 1) = addP frm l j := by
  rw [addP_succ h, hx]
  have := addP_at (frm := frm) h
  obtain ⟨h1, h2⟩ := List.getElem?_eq_some_iff.1 this
  conv => lhs; rw [← h2]
  exact List.set_getElem_self h1
theorem any_snoc {α : Type} {p : α → Bool} {l : List α} {j : Nat} {x : α} (h : l[j]? = some x) : (l.take (j + 1)).any p = ((l.take j).any p || p x) := by
  rw [take_snoc h, List.any_append]; simp
def lateH (b : Bas) (s : BSt) (frm : Int) (h : List BTk) : Bool := (floodsF b s h).any (lateF frm)
section
variable {b : Bas} {s : BSt} {frm : Int} {hs : List (List BTk)}
theorem from_st (h : stB b s ≠ 0) : fromE b s frm hs = stB b s := if_pos h
theorem from_frm (h : stB b s = 0) (h2 : outB frm 0 200000 = true) : fromE b s frm hs = 7 := by unfold fromE; rw [if_neg (fun k => k h), if_pos h2]
theorem from_len (h : stB b s = 0) (h2 : outB frm 0 200000 = false) (h3 : outB hs.length 1 8 = true) : fromE b s frm hs = 3 := by unfold fromE; rw [if_neg (fun k => k h), if_neg (by rw [h2]; decide), if_pos h3]
theorem from_run (h : stB b s = 0) (h2 : outB frm 0 200000 = false) (h3 : outB hs.length 1 8 = false) {e : Int} (h4 : (firstR (runE b s) hs 0).2 = e) (he : e ≠ 0) : fromE b s frm hs = e := by unfold fromE; rw [if_neg (fun k => k h), if_neg (by rw [h2]; decide), if_neg (by rw [h3]; decide), if_pos (by rw [h4]; exact he), h4]
theorem from_late (h : stB b s = 0) (h2 : outB frm 0 200000 = false) (h3 : outB hs.length 1 8 = false) (h4 : (firstR (runE b s) hs 0).2 = 0) : fromE b s frm hs = if hs.any (lateH b s frm) = true then 7 else 0 := by unfold fromE; rw [if_neg (fun k => k h), if_neg (by rw [h2]; decide), if_neg (by rw [h3]; decide), if_neg (fun k => k h4)]; rfl
theorem from_err (h : fromE b s frm hs ≠ 0) : fromR b s frm hs = ([], fromE b s frm hs) := if_pos h
theorem from_in (h : fromE b s frm hs = 0) : fromR b s frm hs = (fromL b s frm hs, 0) := if_neg (fun k => k h)
theorem fromL_snoc {k : Nat} {h : List BTk} (hx : hs[k]? = some h) : fromL b s frm (hs.take (k + 1)) = fromL b s frm (hs.take k) ++ [(floodsF b s h).map (addF frm)] := by unfold fromL; rw [take_snoc hx, List.map_append]; rfl
theorem fromL_len : (fromL b s frm hs).length = hs.length := by simp [fromL]
theorem fl_mem {h : List BTk} {x : Int} (hx : x ∈ floodsF b s h) : -1 ≤ x ∧ x < h.length := by
  obtain ⟨i, -, rfl⟩ := List.mem_map.1 hx
  exact firstFl_bd b s h i
theorem fromL_I64 (hf : outB frm 0 200000 = false) (hr : ∀ h ∈ hs, h.length ≤ 300) : ∀ z ∈ fromL b s frm hs, ∀ x ∈ z, I64 x := by
  intro z hz x hx
  obtain ⟨h, hh, rfl⟩ := List.mem_map.1 hz
  obtain ⟨y, hy, rfl⟩ := List.mem_map.1 hx
  have := fl_mem hy
  have := hr h hh
  simp only [outB_false] at hf
  unfold addF
  split <;> constructor <;> omega
theorem lateF_at {n : Int} (h : 0 ≤ n) : lateF frm n = decide (200000 < n + frm) := by unfold lateF; simp [h]
theorem lateF_no {n : Int} (h : ¬ 0 ≤ n) : lateF frm n = false := by unfold lateF; simp [h]
theorem addF_at {n : Int} (h : 0 ≤ n) : addF frm n = n + frm := if_pos h
theorem addF_no {n : Int} (h : ¬ 0 ≤ n) : addF frm n = n := if_neg h
end
end Bx

/- part Aw58 -/
namespace Go.Proofs.YtmoilbakmlekbaaGreatDoor
open Go Bx
set_option maxHeartbeats 4000000 in
/-- barrage/alarm.From -/
theorem c_From {b : Bas} {s : BSt} {hs : List (List BTk)} {frm : Int} {cs qs : List Value} {hv : Value} {w0 : World} (hg : Glb w0) (h : RBas w0 cs b) (hsq : RBst w0 qs s) (hh : Sl w0 1 RTks hv hs) : CE Tryz.prog 44 #[.agg cs.toArray, .agg qs.toArray, .int .i64 frm, hv] w0 (fun u w' => ∃ lv, u = .tuple #[lv, .int .i64 (fromR b s frm hs).2] ∧ Sl w' 1 RRow lv (fromR b s frm hs).1 ∧ Ext w0 w') := by
  obtain ⟨rv, pv, rfl, hsr, hlk, hcr, hov, hsp⟩ := id h
  obtain ⟨ar, cr, rfl, hrcap, hrmx, hrel⟩ := id hsr
  obtain ⟨ap, cp, rfl, hpcap, hpmx, hpel⟩ := id hsp
  obtain ⟨fv, rfl, hsv, hsf, hsm⟩ := id hsq
  obtain ⟨af, cf, rfl, hfcap, hfmx, hfel⟩ := id hsf
  obtain ⟨ah, ch, rfl, hhcap, hhmx, hhel⟩ := id hh
  refine enter Tryz.func44 rfl Tryz.ntmps44 rfl ?_
  have hS := St.start w0
  refine seq ?_
  refine region ?_
  refine sbox hS rfl rfl ?_; clear hS; intro b4 w hS
  refine sbox hS rfl rfl ?_; clear hS; intro b5 w hS
  refine sv (yAsg rfl) ?_
  refine sv (yAsg rfl) ?_
  refine nil ?_
  show Code.wp _ _ _ _ _
  refine seq ?_
  refine region ?_
  refine sv (yLdBA rfl Tryz.isAgg85 Tryz.sizeOf85 (hS.at _) rfl rfl) ?_
  refine sv (yLdBA rfl Tryz.isAgg87 Tryz.sizeOf87 (hS.at _) rfl rfl) ?_
  refine scall Tryz.call96 (.cons rfl (.cons rfl .nil)) (c_CheckState (h.ext hS.ext) (hsq.ext hS.ext)) ?_
  rintro _ w ⟨rfl, hE⟩; replace hS := hS.step hE; clear hE
  refine sv (yAsg rfl) ?_
  refine nil ?_
  show Code.wp _ _ _ _ _
  refine seq ?_
  refine block ?_
  refine seq ?_
  refine region ?_
  refine sv (yMove rfl) ?_
  refine sv (yNeq rfl rfl) ?_
  refine sv (yAsg rfl) ?_
  refine nil ?_
  show Code.wp _ _ _ _ _
  refine cond rfl (fun c20 => ?_) (fun c20 => ?_)
  ·
    simp only [BS, ne_eq] at c20
    refine seq ?_
    refine region ?_
    refine sv (yMove rfl) ?_
    refine sv (yAsg rfl) ?_
    refine sv (yAsg rfl) ?_
    refine nil ?_
    show Code.wp _ _ _ _ _
    refine wp_ret (blockR (thenR ?_))
    refine retQ (res2 rfl rfl rfl) ?_
    have hE : fromE b s frm hs = stB b s ∧ stB b s ≠ 0 := ⟨from_st c20, c20⟩
    rw [from_err (by rw [hE.1]; exact hE.2), hE.1]
    exact ⟨_, rfl, Sl.nil, hS.ext⟩
  ·
    simp only [BS, ne_eq] at c20
    have hst : stB b s = 0 := by omega
    obtain ⟨hok, hso⟩ := st_ok hst
    have hnp := hok.npol
    refine seq ?_
    refine region ?_
    refine sv (yMove rfl) ?_
    refine scall Tryz.call52 (.cons rfl (.cons rfl (.cons rfl .nil))) c_out ?_
    rintro _ w ⟨rfl, hE⟩; replace hS := hS.step hE; clear hE
    refine sv (yAsg rfl) ?_
    refine nil ?_
    show Code.wp _ _ _ _ _
    refine cond rfl (fun c24 => ?_) (fun c24 => ?_)
    ·
      refine seq ?_
      refine region ?_
      refine sv (yAsg rfl) ?_
      refine sv (yAsg rfl) ?_
      refine nil ?_
      show Code.wp _ _ _ _ _
      refine wp_ret (blockR (thenR ?_))
      refine retQ (res2 rfl rfl rfl) ?_
      have hE : fromE b s frm hs = 7 ∧ (7 : Int) ≠ 0 := ⟨from_frm hst c24, by decide⟩
      rw [from_err (by rw [hE.1]; exact hE.2), hE.1]
      exact ⟨_, rfl, Sl.nil, hS.ext⟩
    ·
      refine seq ?_
      refine region ?_
      refine sv (yMove rfl) ?_
      refine sv (yLen rfl Tryz.underlying88) ?_
      refine scall Tryz.call52 (.cons rfl (.cons rfl (.cons rfl .nil))) c_out ?_
      rintro _ w ⟨rfl, hE⟩; replace hS := hS.step hE; clear hE
      refine sv (yAsg rfl) ?_
      refine nil ?_
      show Code.wp _ _ _ _ _
      refine cond rfl (fun c27 => ?_) (fun c27 => ?_)
      ·
        refine seq ?_
        refine region ?_
        refine sv (yAsg rfl) ?_
        refine sv (yAsg rfl) ?_
        refine nil ?_
        show Code.wp _ _ _ _ _
        refine wp_ret (blockR (thenR ?_))
        refine retQ (res2 rfl rfl rfl) ?_
        have hE : fromE b s frm hs = 3 ∧ (3 : Int) ≠ 0 := ⟨from_len hst c24 c27, by decide⟩
        rw [from_err (by rw [hE.1]; exact hE.2), hE.1]
        exact ⟨_, rfl, Sl.nil, hS.ext⟩
      ·
        have hhl := outB_false.1 c27
        have hfr := outB_false.1 c24
        refine skip ?_
        show Code.wp _ _ _ _ _
        refine seq ?_
        refine region ?_
        refine sv (yAsg rfl) ?_
        refine nil ?_
        show Code.wp _ _ _ _ _
        refine seq ?_
        refine seq ?_
        refine region ?_
        refine sv (yMove rfl) ?_
        refine sv (yLen rfl Tryz.underlying88) ?_
        refine sv (yMove rfl) ?_
        refine nil ?_
        show Code.wp _ _ _ _ _
        refine block ?_
        refine loop (fun f w zz => ∃ (k : Nat) (lv : Value) (vs : List Value), f 2 = .int .i64 frm ∧ f 4 = .pointer (some ⟨b4, 0, none⟩) ∧ f 5 = .pointer (some ⟨b5, 0, none⟩) ∧ f 8 = lv ∧ f 31 = .slice ah hs.length ch ∧ f 32 = .int .i64 (hs.length : Int) ∧ f 33 = .int .i64 (k : Int) ∧ f 10 = .bool ((hs.take k).any (lateH b s frm)) ∧ StX [] w0 w [packI (inI vs (fromL b s frm (hs.take k))), rowI (lv) 34 1 (fromL b s frm (hs.take k)).length vs, blk b5 [.int .i64 s.volume, .slice af s.filled.length cf] 87, blk b4 [.slice ar b.rows.length cr, .int .i64 b.leak, .int .i64 b.crest, .int .i64 b.over, .slice ap b.pols.length cp] 85] ∧ (k ≤ hs.length) ∧ (vs.length = (fromL b s frm (hs.take k)).length) ∧ ((firstR (runE b s) hs 0).2 = (firstR (runE b s) (hs.drop k) k).2) ∧ (∀ y ∈ hs.take k, y.length ≤ 300) ∧ zz = hs.length - k) _ ⟨_, rfl, 0, _, [], rfl, rfl, rfl, rfl, rfl, rfl, rfl, rfl, (StX.pack (M := []) (hS.nilrow 34 1)), (Nat.zero_le _), (rfl), (rfl), (fun i hi => by simp at hi), rfl⟩ ?_
        clear hS
        rintro f w _ ⟨k, lv, vs, h2, h4, h5, h8, h31, h32, h33, h10, hS, hk, hvl, hI, hln, rfl⟩
        refine seq ?_
        refine region ?_
        refine sv (yLss h33 h32) ?_
        refine nil ?_
        show Code.wp _ _ _ _ _
        refine seq ?_
        refine cond rfl (fun c34 => ?_) (fun c34 => ?_)
        ·
          simp only [BS, ne_eq] at c34
          obtain ⟨x, hx, hd⟩ := drop_of (l := hs) (k := k) (by omega)
          obtain ⟨bx, ox, cx, hax, hlx, hcx, hRx, -⟩ := sl_at hh hx
          obtain ⟨xv, rfl, hxs⟩ := id hRx
          have hzl : (fromL b s frm (hs.take k)).length = k := by rw [fromL_len, List.length_take]; omega
          obtain ⟨alv, clv, rfl⟩ := row_shape (hS.row lv)
          refine skip ?_
          show Code.wp _ _ _ _ _
          refine seq ?_
          refine block ?_
          refine seq ?_
          refine region ?_
          refine sv (yIxa h31 hax h33 Tryz.runUnderlying88 Tryz.sizeOf94 (by omega) (by omega)) ?_
          refine sv (yLd rfl Tryz.isAgg94 ((hcx.ext hS.ext).one)) ?_
          refine sv (yAsg rfl) ?_
          refine nil ?_
          show Code.wp _ _ _ _ _
          refine seq ?_
          refine region ?_
          refine sv (yLdBA h4 Tryz.isAgg85 Tryz.sizeOf85 (hS.at _) rfl rfl) ?_
          refine sv (yLdBA h5 Tryz.isAgg87 Tryz.sizeOf87 (hS.at _) rfl rfl) ?_
          refine sv (yMove rfl) ?_
          refine scall Tryz.call46 (.cons rfl (.cons rfl (.cons rfl .nil))) (c_Floods (hg.ext hS.ext) (h.ext hS.ext) (hsq.ext hS.ext) (hxs.ext RBtk.stays hS.ext)) ?_
          rintro _ w (⟨hne, rfl, hM⟩ | ⟨h0, v, rfl, hM⟩)
          ·
            replace hS := hS.step hM; clear hM
            refine sv (yMove rfl) ?_
            refine sv (yExt rfl rfl) ?_
            refine sv (yExt rfl rfl) ?_
            refine sv (yAsg rfl) ?_
            refine sv (yAsg rfl) ?_
            refine nil ?_
            show Code.wp _ _ _ _ _
            refine seq ?_
            refine seq ?_
            refine region ?_
            refine sv (yMove rfl) ?_
            refine sv (yNeq rfl rfl) ?_
            refine nil ?_
            show Code.wp _ _ _ _ _
            refine cond rfl (fun c45 => ?_) (fun c45 => ?_)
            ·
              simp only [BS, ne_eq] at c45
              refine seq ?_
              refine region ?_
              refine sv (yMove rfl) ?_
              refine sv (yAsg rfl) ?_
              refine sv (yAsg rfl) ?_
              refine nil ?_
              show Code.wp _ _ _ _ _
              refine wp_ret (thenR (blockR (thenR (thenR (blockR (thenR ?_))))))
              refine retQ (res2 rfl rfl rfl) ?_
              have hE : fromE b s frm hs = runE b s x ∧ runE b s x ≠ 0 := ⟨from_run hst c24 c27 (by rw [hI, hd, firstR, if_pos hne]) hne, hne⟩
              rw [from_err (by rw [hE.1]; exact hE.2), hE.1]
              exact ⟨_, rfl, Sl.nil, hS.ext⟩
            ·
              simp only [BS, ne_eq] at c45
              exact absurd c45 hne
          ·
            replace hS := hS.call1 hM; clear hM
            obtain ⟨av, cv, rfl⟩ := row_shape (hS.row v)
            have hxl := (run_ok h0).2.2.1
            refine sv (yMove rfl) ?_
            refine sv (yExt rfl rfl) ?_
            refine sv (yExt rfl rfl) ?_
            refine sv (yAsg rfl) ?_
            refine sv (yAsg rfl) ?_
            refine nil ?_
            show Code.wp _ _ _ _ _
            refine seq ?_
            refine seq ?_
            refine region ?_
            refine sv (yMove rfl) ?_
            refine sv (yNeq rfl rfl) ?_
            refine nil ?_
            show Code.wp _ _ _ _ _
            refine cond rfl (fun c45 => ?_) (fun c45 => ?_)
            ·
              exact absurd c45 (by decide)
            ·
              refine skip ?_
              show Code.wp _ _ _ _ _
              refine seq ?_
              refine seq ?_
              refine region ?_
              refine sv (yMove rfl) ?_
              refine sv (yLen rfl Tryz.underlying34) ?_
              refine sv (yMove rfl) ?_
              refine nil ?_
              show Code.wp _ _ _ _ _
              refine block ?_
              refine loop (fun f w zz => ∃ (j : Nat), f 2 = .int .i64 frm ∧ f 4 = .pointer (some ⟨b4, 0, none⟩) ∧ f 5 = .pointer (some ⟨b5, 0, none⟩) ∧ f 8 = .slice alv (fromL b s frm (hs.take k)).length clv ∧ f 31 = .slice ah hs.length ch ∧ f 32 = .int .i64 (hs.length : Int) ∧ f 33 = .int .i64 (k : Int) ∧ f 10 = .bool (((hs.take k).any (lateH b s frm)) || ((floodsF b s x).take j).any (lateF frm)) ∧ f 13 = .slice av b.pols.length cv ∧ f 47 = .slice av b.pols.length cv ∧ f 48 = .int .i64 (b.pols.length : Int) ∧ f 49 = .int .i64 (j : Int) ∧ StX [] w0 w [rowI (.slice av b.pols.length cv) 3 1 b.pols.length ((addP frm (floodsF b s x) j).flatMap Bx.encI), packI (inI vs (fromL b s frm (hs.take k))), rowI (.slice alv (fromL b s frm (hs.take k)).length clv) 34 1 (fromL b s frm (hs.take k)).length vs, blk b5 [.int .i64 s.volume, .slice af s.filled.length cf] 87, blk b4 [.slice ar b.rows.length cr, .int .i64 b.leak, .int .i64 b.crest, .int .i64 b.over, .slice ap b.pols.length cp] 85] ∧ (j ≤ b.pols.length) ∧ zz = b.pols.length - j) _ ⟨_, rfl, 0, h2, h4, h5, h8, h31, h32, h33, (h10.trans (congrArg Value.bool (by simp))), rfl, rfl, rfl, rfl, (by rw [addP_0]; exact hS), (Nat.zero_le _), rfl⟩ ?_
              clear hS
              rintro f w _ ⟨j, h2, h4, h5, h8, h31, h32, h33, h10, h13, h47, h48, h49, hS, hj, rfl⟩
              refine seq ?_
              refine region ?_
              refine sv (yLss h49 h48) ?_
              refine nil ?_
              show Code.wp _ _ _ _ _
              refine seq ?_
              refine cond rfl (fun c50 => ?_) (fun c50 => ?_)
              ·
                simp only [BS, ne_eq] at c50
                obtain ⟨nn, hn, -⟩ := drop_of (l := (floodsF b s x)) (k := j) (by rw [floodsF_len]; omega)
                have hnb := fl_mem (List.mem_of_getElem? hn)
                obtain ⟨gv, rfl, -⟩ := row_get (hS.row (.slice av b.pols.length cv)) (by omega)
                refine skip ?_
                show Code.wp _ _ _ _ _
                refine seq ?_
                refine block ?_
                refine seq ?_
                refine region ?_
                refine sv (yMove h49) ?_
                refine sv (yIx0 (m := j) h47 h49 Tryz.runUnderlying34 Tryz.sizeOf3 (by omega)) ?_
                refine sv (yLd rfl Tryz.isAgg3 ((flat_cells0 (enc := Bx.encI) encI_len (row_at (hS.row (.slice (some ⟨gv, 0, none⟩) b.pols.length cv)) rfl (by omega)) (addP_at hn)).one)) ?_
                refine sv (yAsg rfl) ?_
                refine sv (yAsg rfl) ?_
                refine nil ?_
                show Code.wp _ _ _ _ _
                refine seq ?_
                refine region ?_
                refine sv (yMove rfl) ?_
                refine sv (yGeq rfl rfl) ?_
                refine nil ?_
                show Code.wp _ _ _ _ _
                refine cond rfl (fun c55 => ?_) (fun c55 => ?_)
                ·
                  simp only [BS, ne_eq] at c55
                  refine seq ?_
                  refine region ?_
                  refine sv (yMove h13) ?_
                  refine sv (yMove rfl) ?_
                  refine sv (yIx0 (m := j) rfl rfl Tryz.runUnderlying34 Tryz.sizeOf3 (by omega)) ?_
                  refine sv (yLd rfl Tryz.isAgg3 ((flat_cells0 (enc := Bx.encI) encI_len (row_at (hS.row (.slice (some ⟨gv, 0, none⟩) b.pols.length cv)) rfl (by omega)) (addP_at hn)).one)) ?_
                  refine sv (yMove h2) ?_
                  refine sv (yAdd rfl rfl ⟨by omega, by omega⟩) ?_
                  refine sv (yIx0 (m := j) rfl rfl Tryz.runUnderlying34 Tryz.sizeOf3 (by omega)) ?_
                  refine srst (m := b.pols.length) (cap := cv) (sz := 1) (vs := Bx.encI (nn + frm)) hS rfl rfl Tryz.sizeOf3 rfl rfl (by omega) rfl ?_; clear hS; intro w hS
                  rw [splice_enc encI_len _ _ _ (by rw [addP_len, floodsF_len]; omega)] at hS
                  refine nil ?_
                  show Code.wp _ _ _ _ _
                  refine region ?_
                  refine sv (yMove h10) ?_
                  refine sv (yMove rfl) ?_
                  refine sg rfl rfl rfl (fun g => (yMove h13)) (fun v65 g65 => ?_)
                  refine sg rfl rfl rfl (fun g => (yMove rfl)) (fun v66 g66 => ?_)
                  refine sg rfl rfl rfl (fun g => (yIx0 (m := j) (g65.1 g) (g66.1 g) Tryz.runUnderlying34 Tryz.sizeOf3 (by omega))) (fun v67 g67 => ?_)
                  refine sg rfl rfl rfl (fun g => (yLd (g67.1 g) Tryz.isAgg3 ((flat_cells0 (enc := Bx.encI) encI_len (row_at (hS.row (.slice (some ⟨gv, 0, none⟩) b.pols.length cv)) rfl (by omega)) (List.getElem?_set_self (by rw [addP_len, floodsF_len]; omega))).one))) (fun v68 g68 => ?_)
                  refine sg rfl rfl rfl (fun g => (yGtr (g68.1 g) rfl)) (fun v69 g69 => ?_)
                  refine sv (yOr rfl rfl (fun hB => (g69.1 hB))) ?_
                  refine sv (yAsg rfl) ?_
                  refine nil ?_
                  show Code.wp _ _ _ _ _
                  refine region ?_
                  refine sv (yAdd h49 rfl ⟨by omega, by omega⟩) ?_
                  refine sv (yMove rfl) ?_
                  refine nil ?_
                  exact ⟨_, _, rfl, ⟨j + 1, h2, h4, h5, h8, h31, h32, h33, (rfl.trans (congrArg Value.bool (by rw [any_snoc hn, lateF_at c55, ← Bool.or_assoc]))), h13, h47, h48, rfl, (by rw [addP_succ hn, addF_at c55]; exact hS), (by omega), rfl⟩, by omega⟩
                ·
                  simp only [BS, ne_eq] at c55
                  refine skip ?_
                  show Code.wp _ _ _ _ _
                  refine region ?_
                  refine sv (yAdd h49 rfl ⟨by omega, by omega⟩) ?_
                  refine sv (yMove rfl) ?_
                  refine nil ?_
                  exact ⟨_, _, rfl, ⟨j + 1, h2, h4, h5, h8, h31, h32, h33, (h10.trans (congrArg Value.bool (by rw [any_snoc hn, lateF_no c55, Bool.or_false]))), h13, h47, h48, rfl, (by rw [addP_keep hn (addF_no c55)]; exact hS), (by omega), rfl⟩, by omega⟩
              ·
                simp only [BS, ne_eq] at c50
                obtain rfl : j = b.pols.length := by omega
                have hfn := floodsF_len b s x
                refine exit ?_
                show Code.wp _ _ _ _ _
                refine region ?_
                refine sv (yMove h8) ?_
                refine sv (yMove h13) ?_
                refine sbslice hS Tryz.underlying24 Tryz.sizeOf34 rfl Tryz.zeroValue34 rfl (.cons rfl rfl .nil) rfl ?_; clear hS; intro b74 w hS
                refine sapp (bytes := 24) (size := 1) (v := (.slice alv (fromL b s frm (hs.take k)).length clv)) (m := 1) hS rfl rfl Tryz.underlying24 ti34 rfl rfl rfl rfl (by decide) (blk_cells (hS.at _)) rfl rfl (by omega) (by omega) ?_; clear hS; intro v75 w hS
                refine sv (yAsg rfl) ?_
                refine nil ?_
                show Code.wp _ _ _ _ _
                refine region ?_
                refine sv (yAdd h33 rfl ⟨by omega, by omega⟩) ?_
                refine sv (yMove rfl) ?_
                refine nil ?_
                exact ⟨_, _, rfl, ⟨k + 1, _, vs ++ [.slice av b.pols.length cv], h2, h4, h5, rfl, h31, h32, rfl, (h10.trans (congrArg Value.bool (by rw [any_snoc hx, ← hfn, List.take_length]; rfl))), (by rw [fromL_snoc hx, inI_snoc hvl, List.length_append]; unfold inR; rw [List.length_map, floodsF_len, ← addP_all, floodsF_len]; exact (hS.sub (.cons _ (List.Sublist.refl _))).packs), (by omega), (by rw [fromL_snoc hx, List.length_append, List.length_append, hvl]; rfl), (by rw [hI, hd, firstR, if_neg (fun k => k h0)]; rfl), (fun y hy => by rw [take_snoc hx] at hy; rcases List.mem_append.1 hy with hy | hy; exact hln y hy; rw [List.mem_singleton.1 hy]; exact (run_ok h0).2.2.1), rfl⟩, by omega⟩
        ·
          simp only [BS, ne_eq] at c34
          obtain rfl : k = hs.length := by omega
          rw [List.take_length] at hS hvl hln h10
          rw [List.drop_length] at hI
          refine exit ?_
          show Code.wp _ _ _ _ _
          refine seq ?_
          refine seq ?_
          refine region ?_
          refine sv (yMove h10) ?_
          refine nil ?_
          show Code.wp _ _ _ _ _
          refine cond rfl (fun c77 => ?_) (fun c77 => ?_)
          ·
            have hE := from_late hst c24 c27 (show (firstR (runE b s) hs 0).2 = 0 by rw [hI]; rfl)
            rw [if_pos c77] at hE
            refine seq ?_
            refine region ?_
            refine sv (yAsg rfl) ?_
            refine sv (yAsg rfl) ?_
            refine nil ?_
            show Code.wp _ _ _ _ _
            refine wp_ret (thenR ?_)
            refine retQ (res2 rfl rfl rfl) ?_
            rw [from_err (by rw [hE]; decide), hE]
            exact ⟨_, rfl, Sl.nil, hS.ext⟩
          ·
            have hE := from_late hst c24 c27 (show (firstR (runE b s) hs 0).2 = 0 by rw [hI]; rfl)
            rw [if_neg (by rw [c77]; decide)] at hE
            refine skip ?_
            show Code.wp _ _ _ _ _
            refine seq ?_
            refine region ?_
            refine sv (yMove h8) ?_
            refine sv (yAsg rfl) ?_
            refine sv (yAsg rfl) ?_
            refine nil ?_
            show Code.wp _ _ _ _ _
            refine wp_ret ?_
            refine retQ (res2 rfl rfl rfl) ?_
            rw [from_in hE]
            exact ⟨_, rfl, sl_rows2 (fun w v z h => ⟨v, rfl, h⟩) hvl (hS.row lv) (fun it hit => hS.inpack (by simp) hit) (fromL_I64 c24 hln), hS.ext⟩
end Go.Proofs.YtmoilbakmlekbaaGreatDoor

/- part A44 -/
namespace Bx
open Go Go.RowKit
theorem nine_of {cs : List Value} (h : cs.length = 9) : ∃ a b c d e f g i j, cs = [a, b, c, d, e, f, g, i, j] := by
  match cs, h with
  | [a, b, c, d, e, f, g, i, j], _ => exact ⟨a, b, c, d, e, f, g, i, j, rfl⟩
structure Wtr where
  basin : Bas
  state : BSt
  frm : Int
  hs : List (List BTk)
def RTksW (w : World) (cs : List Value) (l : List BTk) : Prop := ∃ v, cs = [v] ∧ Sl w 3 RBtk v l ∧ l.length * 24 ≤ 140737488351232
def RWtr (w : World) (cs : List Value) (x : Wtr) : Prop := ∃ rv pv fv hv, cs = [rv, .int .i64 x.basin.leak, .int .i64 x.basin.crest, .int .i64 x.basin.over, pv, .int .i64 x.state.volume, fv, .int .i64 x.frm, hv] ∧
  RBas w [rv, .int .i64 x.basin.leak, .int .i64 x.basin.crest, .int .i64 x.basin.over, pv] x.basin ∧ RBst w [.int .i64 x.state.volume, fv] x.state ∧ I64 x.frm ∧ Sl w 1 RTksW hv x.hs
theorem tks_w {w : World} {v : Value} {l : List (List BTk)} (h : Sl w 1 RTksW v l) : Sl w 1 RTks v l := by
  obtain ⟨a, c, rfl, h1, h2, h3⟩ := h
  exact ⟨a, c, rfl, h1, h2, fun i hi => by obtain ⟨b, o, cs, k1, k2, k3, v, k4, k5, k6⟩ := h3 i hi; exact ⟨b, o, cs, k1, k2, k3, v, k4, k5⟩⟩
def RTwoS (_ : World) (cs : List Value) (p : Int × Int) : Prop := cs = [.int .u16 p.1, .int .u16 p.2] ∧ (0 ≤ p.1 ∧ p.1 ≤ 65535) ∧ 0 ≤ p.2 ∧ p.2 ≤ 65535
theorem RTwoS.stays : Stays RTwoS := fun _ _ _ _ _ h => h
end Bx

/- part A45 -/
namespace Bx
open Go Go.RowKit
theorem bpolE_in {b : Bas} (x : Pol) : (((!inB x.sill (brow b 0).level 20000) || (!inB x.take 0 10000)) || (!inB x.room 0 1000000000)) = ((outB x.sill (brow b 0).level 20000 || outB x.take 0 10000) || outB x.room 0 1000000000) := by rw [inB_not, inB_not, inB_not]
theorem rows_bd {b : Bas} (hR : ∀ i, i < b.rows.length → rowE b i = 0) {k : Nat} (hk : k + 1 < b.rows.length) : ((-20000 ≤ (brow b k).level ∧ (brow b k).level ≤ 20000) ∧ 0 ≤ (brow b k).volume ∧ (brow b k).volume ≤ 1000000000) ∧ ((-20000 ≤ (brow b (k + 1)).level ∧ (brow b (k + 1)).level ≤ 20000) ∧ 0 ≤ (brow b (k + 1)).volume ∧ (brow b (k + 1)).volume ≤ 1000000000) ∧ (brow b k).level < (brow b (k + 1)).level ∧ (brow b k).volume < (brow b (k + 1)).volume := by
  have h1 := rowE_ok (hR k (by omega))
  obtain ⟨h2, h3⟩ := rowE_ok (hR (k + 1) hk)
  replace h3 := h3 (by omega)
  rw [Nat.add_sub_cancel] at h3
  exact ⟨h1.1, h2, h3⟩
theorem idxR_succ_y {b : Bas} {v : Int} {m : Nat} (h : vlB b (m + 1) ≤ v) : idxR b v (m + 1) = m + 1 := if_pos h
theorem idxR_succ_n {b : Bas} {v : Int} {m : Nat} (h : ¬ vlB b (m + 1) ≤ v) : idxR b v (m + 1) = idxR b v m := if_neg h
theorem tmod_neg {a c : Int} (hc : 0 < c) : (a.tmod c < 0 ↔ a < a.tdiv c * c) := by
  have := Int.mul_tdiv_add_tmod a c
  rw [Int.mul_comm] at this
  omega
theorem wide_great {b : Bas} (hl : ∀ i, i + 1 < b.rows.length → lvB b i < lvB b (i + 1)) : WideB b (greatB b b.pols) ↔ WideB b b.leak ∧ ∀ x ∈ b.pols, WideB b x.take := by
  obtain ⟨g1, g2⟩ := great_ge (b := b) b.pols b.leak
  constructor
  · intro h
    exact ⟨wide_le hl h g1, fun x hx => wide_le hl h (g2 x hx)⟩
  · rintro ⟨h1, h2⟩
    unfold greatB
    rcases great_mem (b := b) b.pols b.leak with e | ⟨x, hx, e⟩
    · rw [e]; exact h1
    · rw [e]; exact h2 x hx
def wideK (b : Bas) (k : Nat) : Bool := decide (WideB b b.leak) && (b.pols.take k).all fun x => decide (WideB b x.take)
theorem wideK_0 (b : Bas) : wideK b 0 = decide (WideB b b.leak) := by simp [wideK]
theorem wideK_succ {b : Bas} {k : Nat} {x : Pol} (h : b.pols[k]? = some x) : wideK b (k + 1) = (wideK b k && decide (WideB b x.take)) := by
  unfold wideK; rw [take_snoc h, List.all_append]; simp [Bool.and_assoc]
theorem wideK_all {b : Bas} (hl : ∀ i, i + 1 < b.rows.length → lvB b i < lvB b (i + 1)) : wideK b b.pols.length = decide (WideB b (greatB b b.pols)) := by
  rw [Bool.eq_iff_iff, decide_eq_true_eq, wide_great hl]
  unfold wideK
  simp
def fineK (b : Bas) (s : BSt) (k : Nat) : Bool := inB s.volume (vlB b 0) 1000000000 && (List.range k).all fun i => !filBad b s.filled i
theorem fineK_0 (b : Bas) (s : BSt) : fineK b s 0 = inB s.volume (vlB b 0) 1000000000 := by simp [fineK]
theorem fineK_succ (b : Bas) (s : BSt) (k : Nat) : fineK b s (k + 1) = (fineK b s k && inB (flB s.filled k) 0 (plB b k).room) := by
  unfold fineK
  rw [List.range_succ, List.all_append, ← Bool.and_assoc]
  congr 1
  simp only [List.all_cons, List.all_nil, Bool.and_true]
  rw [filBad, ← inB_not, Bool.not_not]
theorem stB_fine {b : Bas} {s : BSt} (h1 : (checkB b).2.2 = 0) (h2 : (s.filled.length : Int) = b.pols.length) : stB b s = if fineK b s s.filled.length = true then 0 else 7 := by
  unfold stB
  rw [if_neg (fun k => k h1), if_neg (fun k => k h2)]
  have e : fineK b s s.filled.length = (!(outB s.volume (vlB b 0) 1000000000 || (List.range s.filled.length).any (filBad b s.filled))) := by
    unfold fineK
    rw [Bool.not_or, ← inB_not, Bool.not_not, List.not_any_eq_all_not]
  rw [e]
  cases outB s.volume (vlB b 0) 1000000000 <;> cases (List.range s.filled.length).any (filBad b s.filled) <;> simp
/-- The least index with a property, looked for from the end. -/
def lowF (p : Nat → Bool) (n : Nat) : Nat → Int
  | 0 => -1
  | m + 1 => if p (n - 1 - m) = true then ((n - 1 - m : Nat) : Int) else lowF p n m
theorem lowF_spec (p : Nat → Bool) (n : Nat) : ∀ m, m ≤ n → (lowF p n m = -1 ∧ ∀ k, n - m ≤ k → k < n → p k = false) ∨ ∃ k : Nat, lowF p n m = (k : Int) ∧ n - m ≤ k ∧ k < n ∧ p k = true ∧ ∀ j, n - m ≤ j → j < k → p j = false
  | 0, _ => .inl ⟨rfl, fun k h1 h2 => by omega⟩
  | m + 1, hm => by
    rw [lowF]
    split
    · next h => exact .inr ⟨n - 1 - m, rfl, by omega, by omega, h, fun j h1 h2 => by omega⟩
    · next h =>
      have h' : p (n - 1 - m) = false := by simpa using h
      rcases lowF_spec p n m (by omega) with ⟨h1, h2⟩ | ⟨k, h1, h2, h3, h4, h5⟩
      · refine .inl ⟨h1, fun k a1 a2 => ?_⟩
        by_cases e : k = n - 1 - m
        · rw [e]; exact h'
        · exact h2 k (by omega) a2
      · refine .inr ⟨k, h1, by omega, h3, h4, fun j a1 a2 => ?_⟩
        by_cases e : j = n - 1 - m
        · rw [e]; exact h'
        · exact h5 j (by omega) a2
theorem lowF_first (b : Bas) (s : BSt) (l : List BTk) (i : Nat) : lowF (fun k => decide (0 < flB (flN b s l k).taken i)) l.length l.length = firstFl b s l i := by
  rcases lowF_spec (fun k => decide (0 < flB (flN b s l k).taken i)) l.length l.length (Nat.le_refl _) with ⟨h1, h2⟩ | ⟨k, h1, h2, h3, h4, h5⟩ <;> rcases firstFl_at (b := b) (s := s) (l := l) (i := i) with ⟨e, z⟩ | ⟨q, e, a1, a2, a3⟩
  · rw [h1, e]
  · have := h2 q (by omega) a1
    simp at this; omega
  · have := z k h3
    simp at h4; omega
  · rw [h1, e]
    simp at h4
    have : k = q := by
      rcases Nat.lt_trichotomy k q with h | h | h
      · have := a3 k h; omega
      · exact h
      · have := h5 q (by omega) h; simp at this; omega
    rw [this]
end Bx

