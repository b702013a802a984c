/- Merged texts, part 6. -/
import Derived.Test.YtmoilbakmlekbaaGreatDoorQ5
import Derived.Test.YtmoilbakmlekbaaGreatDoorProg
import Derived.Test.YtmoilbakmlekbaaGreatDoorRows
import Derived.ChangeSame
import Derived.ChangeVars
import Derived.JoinedOf
import Derived.RowKit
import Derived.RowKitTokens
import Derived.LaidLaws
import Derived.LaidHandle
import Derived.Stop.Joined
set_option linter.all false
/- part Aw60 -/
namespace Go.Proofs.YtmoilbakmlekbaaGreatDoor
open Go Bx
/-- barrage/barrageref04.in -/
theorem c_in4 {a lo hi : Int} {w0 : World} : CV Tryz.prog 128 #[.int .i64 a, .int .i64 lo, .int .i64 hi] w0 (.bool (inB a lo hi)) := by
  refine enter Tryz.func128 rfl Tryz.ntmps128 rfl ?_
  have hS := St.start w0
  refine seq ?_
  refine region ?_
  refine sv (yAsg rfl) ?_
  refine nil ?_
  show Code.wp _ _ _ _ _
  refine seq ?_
  refine region ?_
  refine sv (yMove rfl) ?_
  refine sv (yMove rfl) ?_
  refine sv (yGeq rfl rfl) ?_
  refine sv (yMove rfl) ?_
  refine sg rfl rfl rfl (fun g => (yMove rfl)) (fun v11 g11 => ?_)
  refine sg rfl rfl rfl (fun g => (yMove rfl)) (fun v12 g12 => ?_)
  refine sg rfl rfl rfl (fun g => (yLeq (g11.1 g) (g12.1 g))) (fun v13 g13 => ?_)
  refine sv (yAnd rfl (fun hB => (g13.1 hB)) rfl) ?_
  refine sv (yAsg rfl) ?_
  refine nil ?_
  show Code.wp _ _ _ _ _
  refine wp_ret ?_
  exact retV (res1 rfl rfl) hS.ext
/-- barrage/barrageref04.level -/
theorem c_level4 {a : Int} {w0 : World} : CV Tryz.prog 159 #[.int .i64 a] w0 (.bool (inB a (-20000) 20000)) := by
  refine enter Tryz.func159 rfl Tryz.ntmps159 rfl ?_
  have hS := St.start w0
  refine seq ?_
  refine region ?_
  refine sv (yAsg rfl) ?_
  refine nil ?_
  show Code.wp _ _ _ _ _
  refine seq ?_
  refine region ?_
  refine sv (yMove rfl) ?_
  refine scall Tryz.call128 (.cons rfl (.cons rfl (.cons rfl .nil))) c_in4 ?_
  rintro _ w ⟨rfl, hE⟩; replace hS := hS.step hE; clear hE
  refine sv (yAsg rfl) ?_
  refine nil ?_
  show Code.wp _ _ _ _ _
  refine wp_ret ?_
  exact retV (res1 rfl rfl) hS.ext
set_option maxHeartbeats 1000000 in
/-- barrage/barrageref04.polder -/
theorem c_polder4 {b : Bas} {cs : List Value} {i : Nat} {x : Pol} {w0 : World} (h : RBas w0 cs b) (hx : b.pols[i]? = some x) (hrl : 2 ≤ b.rows.length) : CV Tryz.prog 160 #[.agg cs.toArray, .int .i64 (i : Int)] w0 (.int .i64 (errR (·.name) (bpolE b) b.pols i x)) := by
  obtain ⟨rv, pv, rfl, hsr, hlk, hcr, hov, hsp⟩ := id h
  obtain ⟨ar, cr, rfl, hrcap, hrmx, hrel⟩ := id hsr
  obtain ⟨ap, cp, rfl, hpcap, hpmx, hpel⟩ := id hsp
  have hil := (List.getElem?_eq_some_iff.1 hx).1
  obtain ⟨bq, oq, csq, haq, hlq, hcsq, hRq, -⟩ := sl_at hsp hx
  obtain ⟨rfl, hnm, -⟩ := hRq
  obtain ⟨br0, or0, cr0, har0, hlr0, hcr0, hRr0, -⟩ := sl_at hsr (brow_get (b := b) (show 0 < b.rows.length by omega))
  obtain ⟨rfl, hr01, hr02⟩ := hRr0
  refine enter Tryz.func160 rfl Tryz.ntmps160 rfl ?_
  have hS := St.start w0
  refine seq ?_
  refine region ?_
  refine sbox hS rfl rfl ?_; clear hS; intro b2 w hS
  refine sv (yAsg rfl) ?_
  refine nil ?_
  show Code.wp _ _ _ _ _
  refine seq ?_
  refine region ?_
  refine sv (fa85_4 rfl) ?_
  refine sv (yLdB rfl Tryz.isAgg83 (hS.at _) rfl) ?_
  refine sv (yMove rfl) ?_
  refine sv (yIxa rfl haq rfl Tryz.runUnderlying83 Tryz.sizeOf204 (by omega) (by omega)) ?_
  refine sv (yLdA rfl Tryz.isAgg204 Tryz.sizeOf204 (hcsq.ext hS.ext) rfl) ?_
  refine salloc hS Tryz.zeroValue204 rfl ?_; clear hS; intro b5 w hS
  refine sst hS rfl rfl Tryz.sizeOf204 rfl rfl rfl rfl ?_; clear hS; intro w hS
  refine nil ?_
  show Code.wp _ _ _ _ _
  refine seq ?_
  refine seq ?_
  refine region ?_
  replace hS : StX [] w0 w (blk b5 (polC x) 204 :: blk b2 [.slice ar b.rows.length cr, .int .i64 b.leak, .int .i64 b.crest, .int .i64 b.over, .slice ap b.pols.length cp] 85 :: []) := hS
  refine sv (fa204_0 rfl) ?_
  refine sv (yLdB rfl Tryz.isAgg9 (hS.at _) rfl) ?_
  refine scall Tryz.call115 (.cons rfl .nil) (c_rName hnm) ?_
  rintro _ w ⟨rfl, hE⟩; replace hS := hS.step hE; clear hE
  refine sv (yNot rfl) ?_
  refine nil ?_
  show Code.wp _ _ _ _ _
  refine cond rfl (fun c15 => ?_) (fun c15 => ?_)
  ·
    refine seq ?_
    refine region ?_
    refine sv (yAsg rfl) ?_
    refine nil ?_
    show Code.wp _ _ _ _ _
    refine wp_ret (thenR ?_)
    exact retV (res1 rfl (eqI (errR_form c15))) hS.ext
  ·
    refine skip ?_
    show Code.wp _ _ _ _ _
    refine seq ?_
    refine seq ?_
    refine region ?_
    refine sv (yAsg rfl) ?_
    refine nil ?_
    show Code.wp _ _ _ _ _
    refine block ?_
    refine loop (fun f w zz => ∃ (k : Nat), f 1 = .int .i64 (i : Int) ∧ f 2 = .pointer (some ⟨b2, 0, none⟩) ∧ f 5 = .pointer (some ⟨b5, 0, none⟩) ∧ f 6 = .int .i64 (k : Int) ∧ StX [] w0 w [blk b5 (polC x) 204, blk b2 [.slice ar b.rows.length cr, .int .i64 b.leak, .int .i64 b.crest, .int .i64 b.over, .slice ap b.pols.length cp] 85] ∧ (k ≤ i) ∧ (∀ q, q < k → ∀ u : Pol, b.pols[q]? = some u → u.name ≠ x.name) ∧ zz = i - k) _ ⟨_, rfl, 0, rfl, rfl, rfl, rfl, hS, (Nat.zero_le _), (fun q hq => absurd hq (Nat.not_lt_zero q)), rfl⟩ ?_
    clear hS
    rintro f w _ ⟨k, h1, h2, h5, h6, hS, hk, hN, rfl⟩
    refine seq ?_
    refine seq ?_
    refine region ?_
    refine sv (yMove h6) ?_
    refine sv (yMove h1) ?_
    refine sv (yLss rfl rfl) ?_
    refine nil ?_
    show Code.wp _ _ _ _ _
    refine cond rfl (fun c18 => ?_) (fun c18 => ?_)
    ·
      simp only [BS, ne_eq] at c18
      refine skip ?_
      show Code.wp _ _ _ _ _
      refine seq ?_
      refine block ?_
      refine seq ?_
      refine region_draw mixed (by kernel_rfl) hS ?_
      obtain ⟨u, hxu, -⟩ := drop_of (l := b.pols) (k := k) (by omega)
      obtain ⟨bu, ou, csu, hau, hlu, hcsu, hRu, -⟩ := sl_at hsp hxu
      obtain ⟨rfl, -⟩ := hRu
      refine qv (fun w hS => (fa85_4 h2)) ?_
      refine qv (fun w hS => (yLdB rfl Tryz.isAgg83 (hS.at _) rfl)) ?_
      refine qv (fun w hS => (yMove h6)) ?_
      refine qv (fun w hS => (yIxa rfl hau rfl Tryz.runUnderlying83 Tryz.sizeOf204 (by omega) (by omega))) ?_
      refine qv (fun w hS => (fa204_0 rfl)) ?_
      refine qv (fun w hS => (yLd rfl Tryz.isAgg9 ((hcsu.ext hS.ext).at (j := 0) rfl))) ?_
      refine qv (fun w hS => (fa204_0 h5)) ?_
      refine qv (fun w hS => (yLdB rfl Tryz.isAgg9 (hS.at _) rfl)) ?_
      refine qv (fun w hS => (ySEq rfl rfl)) ?_
      clear hS; refine qnil (fun w hS => ?_)
      show Code.wp _ _ _ _ _
      refine cond rfl (fun c29 => ?_) (fun c29 => ?_)
      ·
        simp only [BS, ne_eq] at c29
        refine seq ?_
        refine region ?_
        refine sv (yAsg rfl) ?_
        refine nil ?_
        show Code.wp _ _ _ _ _
        refine wp_ret (blockR (thenR (thenR (blockR (thenR ?_)))))
        exact retV (res1 rfl (eqI (errR_twice c15 hxu (by omega) c29))) hS.ext
      ·
        simp only [BS, ne_eq] at c29
        refine skip ?_
        show Code.wp _ _ _ _ _
        refine region ?_
        refine sv (yMove h6) ?_
        refine sv (yAdd rfl rfl ⟨by omega, by omega⟩) ?_
        refine sv (yAsg rfl) ?_
        refine nil ?_
        exact ⟨_, _, rfl, ⟨k + 1, h1, h2, h5, rfl, hS, (by omega), (snoc hN (fun v hv => by cases Option.some.inj (hxu.symm.trans hv); exact c29)), rfl⟩, by omega⟩
    ·
      simp only [BS, ne_eq] at c18
      have hne : errR (·.name) (bpolE b) b.pols i x = bpolE b x := errR_rest c15 (fun q hq => hN q (by omega))
      refine exit ?_
      show Code.wp _ _ _ _ _
      refine seq ?_
      refine seq ?_
      refine region_draw mixed (by kernel_rfl) hS ?_
      refine qv (fun w hS => (fa204_1 h5)) ?_
      refine qv (fun w hS => (yLdB rfl Tryz.isAgg3 (hS.at _) rfl)) ?_
      refine qv (fun w hS => (fa85_0 h2)) ?_
      refine qv (fun w hS => (yLdB rfl Tryz.isAgg82 (hS.at _) rfl)) ?_
      refine qv (fun w hS => (yIxa rfl har0 rfl Tryz.runUnderlying82 Tryz.sizeOf202 (by omega) (by omega))) ?_
      refine qv (fun w hS => (fa202_0 rfl)) ?_
      refine qv (fun w hS => (yLd rfl Tryz.isAgg3 ((hcr0.ext hS.ext).at (j := 0) rfl))) ?_
      refine qcall Tryz.call128 (.cons rfl (.cons rfl (.cons rfl .nil))) (fun w hS => c_in4) ?_
      refine qv (fun w hS => (yNot rfl)) ?_
      refine qv (fun w hS => (yMove rfl)) ?_
      refine qg rfl rfl rfl (fun g w hS => (fa204_2 h5)) (fun v40 g40 => ?_)
      refine qg rfl rfl rfl (fun g w hS => (yLdB (g40.1 g) Tryz.isAgg3 (hS.at _) rfl)) (fun v41 g41 => ?_)
      refine qgc rfl rfl rfl Tryz.call128 (fun g => (.cons (g41.1 g) (.cons rfl (.cons rfl .nil)))) (fun g w hS => c_in4) (fun v42 g42 => ?_)
      refine qg rfl rfl rfl (fun g w hS => (yNot (g42.1 g))) (fun v43 g43 => ?_)
      refine qv (fun w hS => (yOr rfl rfl (fun hB => (g43.1 hB)))) ?_
      refine qv (fun w hS => (yMove rfl)) ?_
      refine qg rfl rfl rfl (fun g w hS => (fa204_3 h5)) (fun v46 g46 => ?_)
      refine qg rfl rfl rfl (fun g w hS => (yLdB (g46.1 g) Tryz.isAgg3 (hS.at _) rfl)) (fun v47 g47 => ?_)
      refine qgc rfl rfl rfl Tryz.call128 (fun g => (.cons (g47.1 g) (.cons rfl (.cons rfl .nil)))) (fun g w hS => c_in4) (fun v48 g48 => ?_)
      refine qg rfl rfl rfl (fun g w hS => (yNot (g48.1 g))) (fun v49 g49 => ?_)
      refine qv (fun w hS => (yOr rfl rfl (fun hB => (g49.1 hB)))) ?_
      clear hS; refine qnil (fun w hS => ?_)
      show Code.wp _ _ _ _ _
      refine cond rfl (fun c50 => ?_) (fun c50 => ?_)
      ·
        refine seq ?_
        refine region ?_
        refine sv (yAsg rfl) ?_
        refine nil ?_
        show Code.wp _ _ _ _ _
        refine wp_ret (thenR ?_)
        exact retV (res1 rfl (eqI (hne.trans (bpolE_7 ((bpolE_in x).symm.trans c50))))) hS.ext
      ·
        refine skip ?_
        show Code.wp _ _ _ _ _
        refine seq ?_
        refine region ?_
        refine sv (yAsg rfl) ?_
        refine nil ?_
        show Code.wp _ _ _ _ _
        refine wp_ret ?_
        exact retV (res1 rfl (eqI (hne.trans (bpolE_0 ((bpolE_in x).symm.trans c50))))) hS.ext
set_option maxHeartbeats 1000000 in
/-- barrage/barrageref04.wide -/
theorem c_wide4 {b : Bas} {cs : List Value} {r : Int} {w0 : World} (h : RBas w0 cs b) (hrl : 2 ≤ b.rows.length) (hR : ∀ i, i < b.rows.length → rowE b i = 0) (hr : 0 ≤ r ∧ r ≤ 10000) : CV Tryz.prog 161 #[.agg cs.toArray, .int .i64 r] w0 (.bool (decide (WideB b r))) := by
  obtain ⟨rv, pv, rfl, hsr, hlk, hcr, hov, hsp⟩ := id h
  obtain ⟨ar, cr, rfl, hrcap, hrmx, hrel⟩ := id hsr
  obtain ⟨ap, cp, rfl, hpcap, hpmx, hpel⟩ := id hsp
  refine enter Tryz.func161 rfl Tryz.ntmps161 rfl ?_
  have hS := St.start w0
  refine seq ?_
  refine region ?_
  refine sbox hS rfl rfl ?_; clear hS; intro b2 w hS
  refine sv (yAsg rfl) ?_
  refine nil ?_
  show Code.wp _ _ _ _ _
  refine seq ?_
  refine seq ?_
  refine region ?_
  refine sv (yAsg rfl) ?_
  refine nil ?_
  show Code.wp _ _ _ _ _
  refine block ?_
  refine loop (fun f w zz => ∃ (k : Nat), f 1 = .int .i64 r ∧ f 2 = .pointer (some ⟨b2, 0, none⟩) ∧ f 5 = .int .i64 ((k + 1 : Nat) : Int) ∧ StX [] w0 w [blk b2 [.slice ar b.rows.length cr, .int .i64 b.leak, .int .i64 b.crest, .int .i64 b.over, .slice ap b.pols.length cp] 85] ∧ (k + 1 ≤ b.rows.length) ∧ (∀ i, i < k → r * (lvB b (i + 1) - lvB b i) ≤ vlB b (i + 1) - vlB b i) ∧ zz = b.rows.length - k) _ ⟨_, rfl, 0, rfl, rfl, rfl, hS, (by omega), (fun i hi => absurd hi (Nat.not_lt_zero i)), rfl⟩ ?_
  clear hS
  rintro f w _ ⟨k, h1, h2, h5, hS, hk, hW, rfl⟩
  refine seq ?_
  refine seq ?_
  refine region ?_
  refine sv (yMove h5) ?_
  refine sv (fa85_0 h2) ?_
  refine sv (yLdB rfl Tryz.isAgg82 (hS.at _) rfl) ?_
  refine sv (yLen rfl Tryz.underlying82) ?_
  refine sv (yLss rfl rfl) ?_
  refine nil ?_
  show Code.wp _ _ _ _ _
  refine cond rfl (fun c10 => ?_) (fun c10 => ?_)
  ·
    simp only [BS, ne_eq] at c10
    have hkl : k + 1 < b.rows.length := by omega
    obtain ⟨bx, ox, cx, hax, hlx, hcx, hRx, -⟩ := sl_at hsr (brow_get (b := b) (show k < b.rows.length by omega))
    obtain ⟨rfl, -⟩ := hRx
    obtain ⟨bz, oz, cz, haz, hlz, hcz, hRz, -⟩ := sl_at hsr (brow_get (b := b) hkl)
    obtain ⟨rfl, -⟩ := hRz
    obtain ⟨q1, q2, q3⟩ := rows_bd hR hkl
    have hmb := great_mul hr.1 hr.2 q1 q2 q3
    refine skip ?_
    show Code.wp _ _ _ _ _
    refine seq ?_
    refine block ?_
    refine seq ?_
    refine region_draw mixed (by kernel_rfl) hS ?_
    refine qv (fun w hS => (yMove h1)) ?_
    refine qv (fun w hS => (fa85_0 h2)) ?_
    refine qv (fun w hS => (yLdB rfl Tryz.isAgg82 (hS.at _) rfl)) ?_
    refine qv (fun w hS => (yMove h5)) ?_
    refine qv (fun w hS => (yIxa rfl haz rfl Tryz.runUnderlying82 Tryz.sizeOf202 (by omega) (by omega))) ?_
    refine qv (fun w hS => (fa202_0 rfl)) ?_
    refine qv (fun w hS => (yLd rfl Tryz.isAgg3 ((hcz.ext hS.ext).at (j := 0) rfl))) ?_
    refine qv (fun w hS => (fa85_0 h2)) ?_
    refine qv (fun w hS => (yLdB rfl Tryz.isAgg82 (hS.at _) rfl)) ?_
    refine qv (fun w hS => (yMove h5)) ?_
    refine qv (fun w hS => (ySub rfl rfl ⟨by omega, by omega⟩)) ?_
    refine qv (fun w hS => (yIxa rfl hax (rfl.trans (congrArg (Value.int .i64) (show ((k + 1 : Nat) : Int) - 1 = (k : Int) by omega))) Tryz.runUnderlying82 Tryz.sizeOf202 (by omega) (by omega))) ?_
    refine qv (fun w hS => (fa202_0 rfl)) ?_
    refine qv (fun w hS => (yLd rfl Tryz.isAgg3 ((hcx.ext hS.ext).at (j := 0) rfl))) ?_
    refine qv (fun w hS => (ySub rfl rfl ⟨by omega, by omega⟩)) ?_
    refine qv (fun w hS => (yMul rfl rfl ⟨by omega, by omega⟩)) ?_
    refine qv (fun w hS => (fa85_0 h2)) ?_
    refine qv (fun w hS => (yLdB rfl Tryz.isAgg82 (hS.at _) rfl)) ?_
    refine qv (fun w hS => (yMove h5)) ?_
    refine qv (fun w hS => (yIxa rfl haz rfl Tryz.runUnderlying82 Tryz.sizeOf202 (by omega) (by omega))) ?_
    refine qv (fun w hS => (fa202_1 rfl)) ?_
    refine qv (fun w hS => (yLd rfl Tryz.isAgg3 ((hcz.ext hS.ext).at (j := 1) rfl))) ?_
    refine qv (fun w hS => (fa85_0 h2)) ?_
    refine qv (fun w hS => (yLdB rfl Tryz.isAgg82 (hS.at _) rfl)) ?_
    refine qv (fun w hS => (yMove h5)) ?_
    refine qv (fun w hS => (ySub rfl rfl ⟨by omega, by omega⟩)) ?_
    refine qv (fun w hS => (yIxa rfl hax (rfl.trans (congrArg (Value.int .i64) (show ((k + 1 : Nat) : Int) - 1 = (k : Int) by omega))) Tryz.runUnderlying82 Tryz.sizeOf202 (by omega) (by omega))) ?_
    refine qv (fun w hS => (fa202_1 rfl)) ?_
    refine qv (fun w hS => (yLd rfl Tryz.isAgg3 ((hcx.ext hS.ext).at (j := 1) rfl))) ?_
    refine qv (fun w hS => (ySub rfl rfl ⟨by omega, by omega⟩)) ?_
    refine qv (fun w hS => (yGtr rfl rfl)) ?_
    clear hS; refine qnil (fun w hS => ?_)
    show Code.wp _ _ _ _ _
    refine cond rfl (fun c43 => ?_) (fun c43 => ?_)
    ·
      simp only [BS, ne_eq] at c43
      refine seq ?_
      refine region ?_
      refine sv (yAsg rfl) ?_
      refine nil ?_
      show Code.wp _ _ _ _ _
      refine wp_ret (blockR (thenR (thenR (blockR (thenR ?_)))))
      exact retV (res1 rfl (eqB (decide_eq_false (fun hw => by have := hw k (by omega); unfold lvB vlB at this; omega)))) hS.ext
    ·
      simp only [BS, ne_eq] at c43
      refine skip ?_
      show Code.wp _ _ _ _ _
      refine region ?_
      refine sv (yMove h5) ?_
      refine sv (yAdd rfl rfl ⟨by omega, by omega⟩) ?_
      refine sv (yAsg rfl) ?_
      refine nil ?_
      exact ⟨_, _, rfl, ⟨k + 1, h1, h2, rfl, hS, (by omega), (snoc hW (by unfold lvB vlB; omega)), rfl⟩, by omega⟩
  ·
    simp only [BS, ne_eq] at c10
    refine exit ?_
    show Code.wp _ _ _ _ _
    refine seq ?_
    refine region ?_
    refine sv (yAsg rfl) ?_
    refine nil ?_
    show Code.wp _ _ _ _ _
    refine wp_ret ?_
    exact retV (res1 rfl (eqB (decide_eq_true (p := WideB b r) (fun i hi => hW i (by omega))))) hS.ext
set_option maxHeartbeats 1000000 in
/-- barrage/barrageref04.exact -/
theorem c_exact4 {b : Bas} {cs : List Value} {v : Int} {w0 : World} (h : RBas w0 cs b) (hok : BasOk b) (hv : vlB b 0 ≤ v ∧ v ≤ 1000000000) : CV Tryz.prog 162 #[.agg cs.toArray, .int .i64 v] w0 (.tuple #[.int .i64 (exN b v), .int .i64 (exD b v)]) := by
  obtain ⟨rv, pv, rfl, hsr, hlk, hcr, hov, hsp⟩ := id h
  obtain ⟨ar, cr, rfl, hrcap, hrmx, hrel⟩ := id hsr
  obtain ⟨ap, cp, rfl, hpcap, hpmx, hpel⟩ := id hsp
  have hrl := hok.len
  have hil := idx_lt hok v
  obtain ⟨p1, p2, p3⟩ := ex_parts hok hv.1 hv.2
  have p4 := exD_bd hok v
  have p5 := dl_bd hok v
  have p6 := exN_bd hok hv.1 hv.2
  unfold vlB at p1; unfold lvB at p2 p5; unfold lvB vlB at p3
  have p7 : exD b v = (brow b (idxB b v + 1)).volume - (brow b (idxB b v)).volume := rfl
  rw [p7] at p2
  obtain ⟨bx, ox, cx, hax, hlx, hcx, hRx, -⟩ := sl_at hsr (brow_get (b := b) (show idxB b v < b.rows.length by omega))
  obtain ⟨rfl, hx1, hx2⟩ := hRx
  obtain ⟨bz, oz, cz, haz, hlz, hcz, hRz, -⟩ := sl_at hsr (brow_get (b := b) hil)
  obtain ⟨rfl, hz1, hz2⟩ := hRz
  refine enter Tryz.func162 rfl Tryz.ntmps162 rfl ?_
  have hS := St.start w0
  refine seq ?_
  refine region ?_
  refine sbox hS rfl rfl ?_; clear hS; intro b2 w hS
  refine sv (yAsg rfl) ?_
  refine sv (yAsg rfl) ?_
  refine nil ?_
  show Code.wp _ _ _ _ _
  refine seq ?_
  refine region ?_
  refine sv (yAsg rfl) ?_
  refine nil ?_
  show Code.wp _ _ _ _ _
  refine seq ?_
  refine seq ?_
  refine region ?_
  refine sv (yAsg rfl) ?_
  refine nil ?_
  show Code.wp _ _ _ _ _
  refine block ?_
  refine loop (fun f w zz => ∃ (m : Nat), f 1 = .int .i64 v ∧ f 2 = .pointer (some ⟨b2, 0, none⟩) ∧ f 6 = .int .i64 (idxR b v m : Int) ∧ f 7 = .int .i64 ((m + 1 : Nat) : Int) ∧ StX [] w0 w [blk b2 [.slice ar b.rows.length cr, .int .i64 b.leak, .int .i64 b.crest, .int .i64 b.over, .slice ap b.pols.length cp] 85] ∧ (m + 2 ≤ b.rows.length) ∧ zz = b.rows.length - m) _ ⟨_, rfl, 0, rfl, rfl, rfl, rfl, hS, (by omega), rfl⟩ ?_
  clear hS
  rintro f w _ ⟨m, h1, h2, h6, h7, hS, hm, rfl⟩
  refine seq ?_
  refine seq ?_
  refine region ?_
  refine sv (yMove h7) ?_
  refine sv (yAdd rfl rfl ⟨by omega, by omega⟩) ?_
  refine sv (fa85_0 h2) ?_
  refine sv (yLdB rfl Tryz.isAgg82 (hS.at _) rfl) ?_
  refine sv (yLen rfl Tryz.underlying82) ?_
  refine sv (yLss rfl rfl) ?_
  refine nil ?_
  show Code.wp _ _ _ _ _
  refine cond rfl (fun c15 => ?_) (fun c15 => ?_)
  ·
    simp only [BS, ne_eq] at c15
    obtain ⟨bk, ok, ck, hak, hlk, hck, hRk, -⟩ := sl_at hsr (brow_get (b := b) (show m + 1 < b.rows.length by omega))
    obtain ⟨rfl, -⟩ := hRk
    refine skip ?_
    show Code.wp _ _ _ _ _
    refine seq ?_
    refine block ?_
    refine seq ?_
    refine region ?_
    refine sv (fa85_0 h2) ?_
    refine sv (yLdB rfl Tryz.isAgg82 (hS.at _) rfl) ?_
    refine sv (yMove h7) ?_
    refine sv (yIxa rfl hak rfl Tryz.runUnderlying82 Tryz.sizeOf202 (by omega) (by omega)) ?_
    refine sv (fa202_1 rfl) ?_
    refine sv (yLd rfl Tryz.isAgg3 ((hck.ext hS.ext).at (j := 1) rfl)) ?_
    refine sv (yMove h1) ?_
    refine sv (yLeq rfl rfl) ?_
    refine nil ?_
    show Code.wp _ _ _ _ _
    refine cond rfl (fun c25 => ?_) (fun c25 => ?_)
    ·
      simp only [BS, ne_eq] at c25
      refine region ?_
      refine sv (yMove h7) ?_
      refine sv (yAsg rfl) ?_
      refine nil ?_
      show Code.wp _ _ _ _ _
      refine region ?_
      refine sv (yMove h7) ?_
      refine sv (yAdd rfl rfl ⟨by omega, by omega⟩) ?_
      refine sv (yAsg rfl) ?_
      refine nil ?_
      exact ⟨_, _, rfl, ⟨m + 1, h1, h2, (rfl.trans (congrArg (fun q : Nat => Value.int .i64 (q : Int)) (idxR_succ_y c25).symm)), rfl, hS, (by omega), rfl⟩, by omega⟩
    ·
      simp only [BS, ne_eq] at c25
      refine skip ?_
      show Code.wp _ _ _ _ _
      refine region ?_
      refine sv (yMove h7) ?_
      refine sv (yAdd rfl rfl ⟨by omega, by omega⟩) ?_
      refine sv (yAsg rfl) ?_
      refine nil ?_
      exact ⟨_, _, rfl, ⟨m + 1, h1, h2, (h6.trans (congrArg (fun q : Nat => Value.int .i64 (q : Int)) (idxR_succ_n c25).symm)), rfl, hS, (by omega), rfl⟩, by omega⟩
  ·
    simp only [BS, ne_eq] at c15
    obtain rfl : m = b.rows.length - 2 := by omega
    rw [show idxR b v (b.rows.length - 2) = idxB b v from rfl] at h6
    refine exit ?_
    show Code.wp _ _ _ _ _
    refine seq ?_
    refine region_mix (fun w => StX [] w0 w [blk b2 [.slice ar b.rows.length cr, .int .i64 b.leak, .int .i64 b.crest, .int .i64 b.over, .slice ap b.pols.length cp] 85]) 15 mixed hS ?_
    clear hS; intro w hS
    refine f_step 0 (by kernel_rfl) rfl (fun c a a' w h => by obtain ⟨_, v, hv, _⟩ := h; cases hv) (by first | exact hS | exact hS.sub (.cons _ (List.Sublist.refl _)) | exact hS.sub (.cons _ (.cons _ (List.Sublist.refl _)))) (fun w hS => (fa85_0 h2)) ?_
    refine f_step 1 (by kernel_rfl) rfl (fun c a a' w h => by obtain ⟨_, v, hv, _⟩ := h; cases hv) (by first | exact hS | exact hS.sub (.cons _ (List.Sublist.refl _)) | exact hS.sub (.cons _ (.cons _ (List.Sublist.refl _)))) (fun w hS => (yLdB rfl Tryz.isAgg82 (hS.at _) rfl)) ?_
    refine f_step 2 (by kernel_rfl) rfl (fun c a a' w h => by obtain ⟨_, v, hv, _⟩ := h; cases hv) (by first | exact hS | exact hS.sub (.cons _ (List.Sublist.refl _)) | exact hS.sub (.cons _ (.cons _ (List.Sublist.refl _)))) (fun w hS => (yMove h6)) ?_
    refine f_step 3 (by kernel_rfl) rfl (fun c a a' w h => by obtain ⟨_, v, hv, _⟩ := h; cases hv) (by first | exact hS | exact hS.sub (.cons _ (List.Sublist.refl _)) | exact hS.sub (.cons _ (.cons _ (List.Sublist.refl _)))) (fun w hS => (yIxa rfl hax rfl Tryz.runUnderlying82 Tryz.sizeOf202 (by omega) (by omega))) ?_
    refine f_step 4 (by kernel_rfl) rfl (fun c a a' w h => by obtain ⟨_, v, hv, _⟩ := h; cases hv) (by first | exact hS | exact hS.sub (.cons _ (List.Sublist.refl _)) | exact hS.sub (.cons _ (.cons _ (List.Sublist.refl _)))) (fun w hS => (yLdA rfl Tryz.isAgg202 Tryz.sizeOf202 (hcx.ext hS.ext) rfl)) ?_
    refine f_step 5 (by kernel_rfl) rfl (fun c a a' w h => by obtain ⟨_, v, hv, _⟩ := h; cases hv) (by first | exact hS | exact hS.sub (.cons _ (List.Sublist.refl _)) | exact hS.sub (.cons _ (.cons _ (List.Sublist.refl _)))) (fun w hS => (fa85_0 h2)) ?_
    refine f_step 6 (by kernel_rfl) rfl (fun c a a' w h => by obtain ⟨_, v, hv, _⟩ := h; cases hv) (by first | exact hS | exact hS.sub (.cons _ (List.Sublist.refl _)) | exact hS.sub (.cons _ (.cons _ (List.Sublist.refl _)))) (fun w hS => (yLdB rfl Tryz.isAgg82 (hS.at _) rfl)) ?_
    refine f_step 7 (by kernel_rfl) rfl (fun c a a' w h => by obtain ⟨_, v, hv, _⟩ := h; cases hv) (by first | exact hS | exact hS.sub (.cons _ (List.Sublist.refl _)) | exact hS.sub (.cons _ (.cons _ (List.Sublist.refl _)))) (fun w hS => (yMove h6)) ?_
    refine f_step 8 (by kernel_rfl) rfl (fun c a a' w h => by obtain ⟨_, v, hv, _⟩ := h; cases hv) (by first | exact hS | exact hS.sub (.cons _ (List.Sublist.refl _)) | exact hS.sub (.cons _ (.cons _ (List.Sublist.refl _)))) (fun w hS => (yAdd rfl rfl ⟨by omega, by omega⟩)) ?_
    refine f_step 9 (by kernel_rfl) rfl (fun c a a' w h => by obtain ⟨_, v, hv, _⟩ := h; cases hv) (by first | exact hS | exact hS.sub (.cons _ (List.Sublist.refl _)) | exact hS.sub (.cons _ (.cons _ (List.Sublist.refl _)))) (fun w hS => (yIxa rfl haz rfl Tryz.runUnderlying82 Tryz.sizeOf202 (by omega) (by omega))) ?_
    refine f_step 10 (by kernel_rfl) rfl (fun c a a' w h => by obtain ⟨_, v, hv, _⟩ := h; cases hv) (by first | exact hS | exact hS.sub (.cons _ (List.Sublist.refl _)) | exact hS.sub (.cons _ (.cons _ (List.Sublist.refl _)))) (fun w hS => (yLdA rfl Tryz.isAgg202 Tryz.sizeOf202 (hcz.ext hS.ext) rfl)) ?_
    show wpA _ _ _ _ _ _ _ _ _ _
    refine a_step (i := 11) (is := [12]) (by kernel_rfl) ⟨?_, ?_, trivial⟩
    ·
      refine ⟨_, rfl, ?_⟩
      refine salloc hS Tryz.zeroValue202 rfl ?_; clear hS; intro b8 w hS
      refine nil ?_
      refine ⟨fun _ => (by first | exact hS | exact hS.sub (.cons _ (List.Sublist.refl _)) | exact hS.sub (.cons _ (.cons _ (List.Sublist.refl _)))), ?_⟩
      show wpA _ _ _ _ _ _ _ _ _ _
      show wpA _ _ _ _ _ _ _ _ _ _
      refine a_step (i := 12) (is := []) (by kernel_rfl) ⟨?_, trivial⟩
      refine ⟨_, rfl, ?_⟩
      refine salloc hS Tryz.zeroValue202 rfl ?_; clear hS; intro b9 w hS
      refine nil ?_
      refine ⟨fun _ => (by first | exact hS | exact hS.sub (.cons _ (List.Sublist.refl _)) | exact hS.sub (.cons _ (.cons _ (List.Sublist.refl _)))), ?_⟩
      show wpA _ _ _ _ _ _ _ _ _ _
      show wpA _ _ _ _ _ _ _ _ _ _
      refine a_step (i := 13) (is := []) (by kernel_rfl) ⟨?_, trivial⟩
      refine ⟨_, rfl, ?_⟩
      refine sst hS rfl rfl Tryz.sizeOf202 rfl rfl rfl rfl ?_; clear hS; intro w hS
      refine nil ?_
      refine ⟨fun _ => (by first | exact hS | exact hS.sub (.cons _ (List.Sublist.refl _)) | exact hS.sub (.cons _ (.cons _ (List.Sublist.refl _)))), ?_⟩
      show wpA _ _ _ _ _ _ _ _ _ _
      show wpA _ _ _ _ _ _ _ _ _ _
      refine a_step (i := 14) (is := []) (by kernel_rfl) ⟨?_, trivial⟩
      refine ⟨_, rfl, ?_⟩
      refine sst hS rfl rfl Tryz.sizeOf202 rfl rfl rfl rfl ?_; clear hS; intro w hS
      refine nil ?_
      refine ⟨fun _ => (by first | exact hS | exact hS.sub (.cons _ (List.Sublist.refl _)) | exact hS.sub (.cons _ (.cons _ (List.Sublist.refl _)))), ?_⟩
      show wpA _ _ _ _ _ _ _ _ _ _
      refine a_end (by kernel_rfl) ?_
      show Code.wp _ _ _ _ _
      refine seq ?_
      refine region ?_
      refine sv (fa202_1 rfl) ?_
      refine sv (yLdB rfl Tryz.isAgg3 (hS.at _) rfl) ?_
      refine sv (fa202_1 rfl) ?_
      refine sv (yLdB rfl Tryz.isAgg3 (hS.at _) rfl) ?_
      refine sv (ySub rfl rfl ⟨by omega, by omega⟩) ?_
      refine sv (yAsg rfl) ?_
      refine nil ?_
      show Code.wp _ _ _ _ _
      refine seq ?_
      refine region ?_
      refine sv (fa202_0 rfl) ?_
      refine sv (yLdB rfl Tryz.isAgg3 (hS.at _) rfl) ?_
      refine sv (yMove rfl) ?_
      refine sv (yMul rfl rfl ⟨by omega, by omega⟩) ?_
      refine sv (yMove h1) ?_
      refine sv (fa202_1 rfl) ?_
      refine sv (yLdB rfl Tryz.isAgg3 (hS.at _) rfl) ?_
      refine sv (ySub rfl rfl ⟨by omega, by omega⟩) ?_
      refine sv (fa202_0 rfl) ?_
      refine sv (yLdB rfl Tryz.isAgg3 (hS.at _) rfl) ?_
      refine sv (fa202_0 rfl) ?_
      refine sv (yLdB rfl Tryz.isAgg3 (hS.at _) rfl) ?_
      refine sv (ySub rfl rfl ⟨by omega, by omega⟩) ?_
      refine sv (yMul rfl rfl ⟨by omega, by omega⟩) ?_
      refine sv (yAdd rfl rfl ⟨by omega, by omega⟩) ?_
      refine sv (yMove rfl) ?_
      refine sv (yAsg rfl) ?_
      refine sv (yAsg rfl) ?_
      refine nil ?_
      show Code.wp _ _ _ _ _
      refine wp_ret ?_
      exact retV (res2 rfl rfl rfl) hS.ext
    ·
      refine ⟨_, rfl, ?_⟩
      refine salloc hS Tryz.zeroValue202 rfl ?_; clear hS; intro b9 w hS
      refine nil ?_
      refine ⟨fun _ => (by first | exact hS | exact hS.sub (.cons _ (List.Sublist.refl _)) | exact hS.sub (.cons _ (.cons _ (List.Sublist.refl _)))), ?_⟩
      show wpA _ _ _ _ _ _ _ _ _ _
      show wpA _ _ _ _ _ _ _ _ _ _
      refine a_step (i := 11) (is := []) (by kernel_rfl) ⟨?_, trivial⟩
      refine ⟨_, rfl, ?_⟩
      refine salloc hS Tryz.zeroValue202 rfl ?_; clear hS; intro b8 w hS
      refine nil ?_
      refine ⟨fun _ => (by first | exact hS | exact hS.sub (.cons _ (List.Sublist.refl _)) | exact hS.sub (.cons _ (.cons _ (List.Sublist.refl _)))), ?_⟩
      show wpA _ _ _ _ _ _ _ _ _ _
      show wpA _ _ _ _ _ _ _ _ _ _
      refine a_step (i := 13) (is := []) (by kernel_rfl) ⟨?_, trivial⟩
      refine ⟨_, rfl, ?_⟩
      refine sst hS rfl rfl Tryz.sizeOf202 rfl rfl rfl rfl ?_; clear hS; intro w hS
      refine nil ?_
      refine ⟨fun _ => (by first | exact hS | exact hS.sub (.cons _ (List.Sublist.refl _)) | exact hS.sub (.cons _ (.cons _ (List.Sublist.refl _)))), ?_⟩
      show wpA _ _ _ _ _ _ _ _ _ _
      show wpA _ _ _ _ _ _ _ _ _ _
      refine a_step (i := 14) (is := []) (by kernel_rfl) ⟨?_, trivial⟩
      refine ⟨_, rfl, ?_⟩
      refine sst hS rfl rfl Tryz.sizeOf202 rfl rfl rfl rfl ?_; clear hS; intro w hS
      refine nil ?_
      refine ⟨fun _ => (by first | exact hS | exact hS.sub (.cons _ (List.Sublist.refl _)) | exact hS.sub (.cons _ (.cons _ (List.Sublist.refl _)))), ?_⟩
      show wpA _ _ _ _ _ _ _ _ _ _
      refine a_end (by kernel_rfl) ?_
      show Code.wp _ _ _ _ _
      refine seq ?_
      refine region ?_
      refine sv (fa202_1 rfl) ?_
      refine sv (yLdB rfl Tryz.isAgg3 (hS.at _) rfl) ?_
      refine sv (fa202_1 rfl) ?_
      refine sv (yLdB rfl Tryz.isAgg3 (hS.at _) rfl) ?_
      refine sv (ySub rfl rfl ⟨by omega, by omega⟩) ?_
      refine sv (yAsg rfl) ?_
      refine nil ?_
      show Code.wp _ _ _ _ _
      refine seq ?_
      refine region ?_
      refine sv (fa202_0 rfl) ?_
      refine sv (yLdB rfl Tryz.isAgg3 (hS.at _) rfl) ?_
      refine sv (yMove rfl) ?_
      refine sv (yMul rfl rfl ⟨by omega, by omega⟩) ?_
      refine sv (yMove h1) ?_
      refine sv (fa202_1 rfl) ?_
      refine sv (yLdB rfl Tryz.isAgg3 (hS.at _) rfl) ?_
      refine sv (ySub rfl rfl ⟨by omega, by omega⟩) ?_
      refine sv (fa202_0 rfl) ?_
      refine sv (yLdB rfl Tryz.isAgg3 (hS.at _) rfl) ?_
      refine sv (fa202_0 rfl) ?_
      refine sv (yLdB rfl Tryz.isAgg3 (hS.at _) rfl) ?_
      refine sv (ySub rfl rfl ⟨by omega, by omega⟩) ?_
      refine sv (yMul rfl rfl ⟨by omega, by omega⟩) ?_
      refine sv (yAdd rfl rfl ⟨by omega, by omega⟩) ?_
      refine sv (yMove rfl) ?_
      refine sv (yAsg rfl) ?_
      refine sv (yAsg rfl) ?_
      refine nil ?_
      show Code.wp _ _ _ _ _
      refine wp_ret ?_
      exact retV (res2 rfl rfl rfl) hS.ext
/-- barrage/barrageref04.down -/
theorem c_down4 {a c : Int} {w0 : World} (hc : 0 < c) (ha : -9223372036854775000 ≤ a ∧ a ≤ 9223372036854775000) : CV Tryz.prog 163 #[.int .i64 a, .int .i64 c] w0 (.int .i64 (a / c)) := by
  obtain ⟨⟨f0, f1⟩, f2, f3⟩ := tdiv_floor a hc
  have f4 := Int.natAbs_tdiv_le_natAbs a c
  have f5 := tmod_neg (a := a) hc
  refine enter Tryz.func163 rfl Tryz.ntmps163 rfl ?_
  have hS := St.start w0
  refine seq ?_
  refine region ?_
  refine sv (yAsg rfl) ?_
  refine nil ?_
  show Code.wp _ _ _ _ _
  refine seq ?_
  refine region ?_
  refine sv (yMove rfl) ?_
  refine sv (yMove rfl) ?_
  refine sv (yQuo rfl rfl hc ⟨by omega, by omega⟩) ?_
  refine sv (yAsg rfl) ?_
  refine nil ?_
  show Code.wp _ _ _ _ _
  refine seq ?_
  refine seq ?_
  refine region ?_
  refine sv (yMove rfl) ?_
  refine sv (yMove rfl) ?_
  refine sv (yRem rfl rfl hc) ?_
  refine sv (yLss rfl rfl) ?_
  refine nil ?_
  show Code.wp _ _ _ _ _
  refine cond rfl (fun c12 => ?_) (fun c12 => ?_)
  ·
    simp only [BS, ne_eq] at c12
    refine region ?_
    refine sv (yMove rfl) ?_
    refine sv (ySub rfl rfl ⟨by omega, by omega⟩) ?_
    refine sv (yAsg rfl) ?_
    refine nil ?_
    show Code.wp _ _ _ _ _
    refine seq ?_
    refine region ?_
    refine sv (yMove rfl) ?_
    refine sv (yAsg rfl) ?_
    refine nil ?_
    show Code.wp _ _ _ _ _
    refine wp_ret ?_
    exact retV (res1 rfl (eqI (f2 (f5.1 c12)))) hS.ext
  ·
    simp only [BS, ne_eq] at c12
    refine skip ?_
    show Code.wp _ _ _ _ _
    refine seq ?_
    refine region ?_
    refine sv (yMove rfl) ?_
    refine sv (yAsg rfl) ?_
    refine nil ?_
    show Code.wp _ _ _ _ _
    refine wp_ret ?_
    exact retV (res1 rfl (eqI (f3 (fun k => c12 (f5.2 k))))) hS.ext
end Go.Proofs.YtmoilbakmlekbaaGreatDoor

/- part A46 -/
namespace Bx
open Go Go.RowKit
theorem great_leak {b : Bas} (h : (outB b.leak 0 10000 || outB b.over 0 10000 || outB b.crest (-20000) 20000) = false) : 0 ≤ b.leak ∧ b.leak ≤ 10000 := by
  simp only [Bool.or_eq_false_iff, outB_false] at h
  exact h.1.1
theorem pols_take {b : Bas} (h : (namedR (·.name) (bpolE b) b.pols [] 0).2 = 0) : ∀ x ∈ b.pols, 0 ≤ x.take ∧ x.take ≤ 10000 := fun x hx => by
  have k := ((namedR_ok _ _ _ h).1 x hx).2.1
  unfold bpolE at k
  split at k
  · simp at k
  · next k1 =>
    simp only [Bool.not_eq_true, Bool.or_eq_false_iff, outB_false] at k1
    exact k1.1.2
end Bx
namespace Bx
open Go Go.RowKit
theorem gK_all {b : Bas} {s : BSt} {t : BTk} (h1 : ¬ 1000000000 < v1B s t) (h2 : ¬ 1000000000 < v2B b s t) (h3 : ¬ 1000000000 < v3B b s t) : ∀ j, j < 5 → gK b s t j = true := fun j hj => by
  rcases j with _ | _ | _ | j
  · show (!decide (1000000000 < v1B s t)) = true; simp only [decide_eq_false h1, Bool.not_false]
  · show (!decide (1000000000 < v2B b s t)) = true; simp only [decide_eq_false h2, Bool.not_false]
  · show (!decide (1000000000 < v3B b s t)) = true; simp only [decide_eq_false h3, Bool.not_false]
  · rfl
theorem tkBad_in (t : BTk) : (((!inB t.outer (-20000) 20000) || (!inB t.river 0 10000000)) || (!inB t.out 0 10000000)) = tkBad t := by unfold tkBad; rw [inB_not, inB_not, inB_not]
section
variable {b : Bas} {s : BSt} {t : BTk} (hb : BasOk b) (hs : BstOk b s) (ht : TkOk t) (hg : ∀ j, j < 5 → gK b s t j = true)
include hb hs ht hg
theorem step_st2 {w : World} {fv : Value} (h : w.ownsRow 0 3 1 fv b.pols.length ((filP b s.filled (v4B b s t) b.pols.length).flatMap encI)) : RBst w [.int .i64 (stepS b s t).volume, fv] (stepS b s t) := by
  have := step_st1 hb hs ht hg (w := w) (fv := fv) (by rw [hs.len]; exact h)
  exact this
theorem step_fl2 {w : World} {tv : Value} (h : w.ownsRow 0 3 1 tv b.pols.length ((tksP b s.filled (v4B b s t) b.pols.length).flatMap encI)) : RBfl w (flC (stepF b s t) tv) (stepF b s t) := by
  have := step_fl1 hb hs ht hg (w := w) (tv := tv) (by rw [show (tK b s t 5).length = b.pols.length from tksP_len ..]; exact h)
  exact this
end
end Bx

/- part Aw61 -/
namespace Go.Proofs.YtmoilbakmlekbaaGreatDoor
open Go Bx
set_option maxHeartbeats 4000000 in
/-- barrage/barrageref04.Check -/
theorem c_ChkR4 {b : Bas} {cs : List Value} {w0 : World} (h : RBas w0 cs b) : CV Tryz.prog 142 #[.agg cs.toArray] w0 (.tuple #[.int .i64 (checkB b).1, .int .i64 (checkB b).2.1, .int .i64 (checkB b).2.2]) := by
  obtain ⟨rv, pv, rfl, hsr, hlk, hcr, hov, hsp⟩ := id h
  obtain ⟨ar, cr, rfl, hrcap, hrmx, hrel⟩ := id hsr
  obtain ⟨ap, cp, rfl, hpcap, hpmx, hpel⟩ := id hsp
  refine enter Tryz.func142 rfl Tryz.ntmps142 rfl ?_
  have hS := St.start w0
  refine seq ?_
  refine region ?_
  refine sbox hS rfl rfl ?_; clear hS; intro b1 w hS
  refine sv (yAsg rfl) ?_
  refine sv (yAsg rfl) ?_
  refine sv (yAsg rfl) ?_
  refine nil ?_
  show Code.wp _ _ _ _ _
  refine seq ?_
  refine seq ?_
  refine region ?_
  refine sv (fa85_0 rfl) ?_
  refine sv (yLdB rfl Tryz.isAgg82 (hS.at _) rfl) ?_
  refine sv (yLen rfl Tryz.underlying82) ?_
  refine scall Tryz.call128 (.cons rfl (.cons rfl (.cons rfl .nil))) c_in4 ?_
  rintro _ w ⟨rfl, hE⟩; replace hS := hS.step hE; clear hE
  refine sv (yNot rfl) ?_
  refine nil ?_
  show Code.wp _ _ _ _ _
  refine cond rfl (fun c15 => ?_) (fun c15 => ?_)
  ·
    have h15 : outB b.rows.length 2 12 = true := by rw [← inB_not]; exact c15
    refine seq ?_
    refine region ?_
    refine sv (yAsg rfl) ?_
    refine sv (yAsg rfl) ?_
    refine sv (yAsg rfl) ?_
    refine nil ?_
    show Code.wp _ _ _ _ _
    have hfin : checkB b = (1, 0, 3) := by unfold checkB; rw [if_pos h15]
    refine wp_ret (thenR ?_)
    exact retV (res3 rfl (fstI hfin) (thd1I hfin) (thd2I hfin)) hS.ext
  ·
    have h15 : outB b.rows.length 2 12 = false := by rw [← inB_not]; exact c15
    have hrl := outB_false.1 h15
    refine skip ?_
    show Code.wp _ _ _ _ _
    refine seq ?_
    refine seq ?_
    refine region ?_
    refine sv (yAsg rfl) ?_
    refine nil ?_
    show Code.wp _ _ _ _ _
    refine block ?_
    refine loop (fun f w zz => ∃ (k : Nat), f 1 = .pointer (some ⟨b1, 0, none⟩) ∧ f 5 = .int .i64 (k : Int) ∧ StX [] w0 w [blk b1 [.slice ar b.rows.length cr, .int .i64 b.leak, .int .i64 b.crest, .int .i64 b.over, .slice ap b.pols.length cp] 85] ∧ (k ≤ b.rows.length) ∧ (firstN (rowE b) b.rows.length 0 = firstN (rowE b) (b.rows.length - k) k) ∧ zz = b.rows.length - k) _ ⟨_, rfl, 0, rfl, rfl, hS, (Nat.zero_le _), (rfl), rfl⟩ ?_
    clear hS
    rintro f w _ ⟨k, h1, h5, hS, hk, hI, rfl⟩
    refine seq ?_
    refine seq ?_
    refine region ?_
    refine sv (yMove h5) ?_
    refine sv (fa85_0 h1) ?_
    refine sv (yLdB rfl Tryz.isAgg82 (hS.at _) rfl) ?_
    refine sv (yLen rfl Tryz.underlying82) ?_
    refine sv (yLss rfl rfl) ?_
    refine nil ?_
    show Code.wp _ _ _ _ _
    refine cond rfl (fun c20 => ?_) (fun c20 => ?_)
    ·
      simp only [BS, ne_eq] at c20
      have hkl : k < b.rows.length := by omega
      obtain ⟨m1, hm1⟩ : ∃ m, b.rows.length - k = m + 1 := ⟨b.rows.length - k - 1, by omega⟩
      obtain ⟨bx, ox, cx, hax, hlx, hcx, hRx, -⟩ := sl_at hsr (brow_get (b := b) hkl)
      obtain ⟨rfl, hxl, hxv⟩ := hRx
      obtain ⟨by0, oy0, hay⟩ := row_if hsr k hk
      refine skip ?_
      show Code.wp _ _ _ _ _
      refine seq ?_
      refine block ?_
      refine seq ?_
      refine region ?_
      refine sv (fa85_0 h1) ?_
      refine sv (yLdB rfl Tryz.isAgg82 (hS.at _) rfl) ?_
      refine sv (yMove h5) ?_
      refine sv (yIxa rfl hax rfl Tryz.runUnderlying82 Tryz.sizeOf202 (by omega) (by omega)) ?_
      refine sv (yLdA rfl Tryz.isAgg202 Tryz.sizeOf202 (hcx.ext hS.ext) rfl) ?_
      refine salloc hS Tryz.zeroValue202 rfl ?_; clear hS; intro b6 w hS
      refine sst hS rfl rfl Tryz.sizeOf202 rfl rfl rfl rfl ?_; clear hS; intro w hS
      refine nil ?_
      show Code.wp _ _ _ _ _
      refine seq ?_
      refine seq ?_
      refine region ?_
      replace hS : StX [] w0 w [blk b6 (browC (brow b k)) 202, blk b1 [.slice ar b.rows.length cr, .int .i64 b.leak, .int .i64 b.crest, .int .i64 b.over, .slice ap b.pols.length cp] 85] := hS
      refine sv (fa202_0 rfl) ?_
      refine sv (yLdB rfl Tryz.isAgg3 (hS.at _) rfl) ?_
      refine scall Tryz.call159 (.cons rfl .nil) c_level4 ?_
      rintro _ w ⟨rfl, hE⟩; replace hS := hS.step hE; clear hE
      refine sv (yNot rfl) ?_
      refine sv (yMove rfl) ?_
      refine sg rfl rfl rfl (fun g => (fa202_1 rfl)) (fun v33 g33 => ?_)
      refine sg rfl rfl rfl (fun g => (yLdB (g33.1 g) Tryz.isAgg3 (hS.at _) rfl)) (fun v34 g34 => ?_)
      refine sgc hS rfl rfl rfl Tryz.call128 (fun g => (.cons (g34.1 g) (.cons rfl (.cons rfl .nil)))) (fun g => c_in4) ?_; clear hS; intro v35 w hS g35
      refine sg rfl rfl rfl (fun g => (yNot (g35.1 g))) (fun v36 g36 => ?_)
      refine sv (yOr rfl rfl (fun hB => (g36.1 hB))) ?_
      refine nil ?_
      show Code.wp _ _ _ _ _
      refine cond rfl (fun c37 => ?_) (fun c37 => ?_)
      ·
        have h37 : (outB (brow b k).level (-20000) 20000 || outB (brow b k).volume 0 1000000000) = true := by rw [← inB_not, ← inB_not]; exact c37
        refine seq ?_
        refine region ?_
        refine sv (yMove h5) ?_
        refine sv (yAsg rfl) ?_
        refine sv (yAsg rfl) ?_
        refine sv (yAsg rfl) ?_
        refine nil ?_
        show Code.wp _ _ _ _ _
        have hfin : checkB b = (1, (k : Int), 7) := by unfold checkB; rw [if_neg (by rw [h15]; decide), if_pos (by rw [hI, hm1, firstN_hit (by rw [rowE_7 h37]; decide), rowE_7 h37]; show (7 : Int) ≠ 0; decide), hI, hm1, firstN_hit (by rw [rowE_7 h37]; decide), rowE_7 h37]
        refine wp_ret (thenR (blockR (thenR (thenR (blockR (thenR ?_))))))
        exact retV (res3 rfl (fstI hfin) (thd1I hfin) (thd2I hfin)) hS.ext
      ·
        have h37 : (outB (brow b k).level (-20000) 20000 || outB (brow b k).volume 0 1000000000) = false := by rw [← inB_not, ← inB_not]; exact c37
        refine skip ?_
        show Code.wp _ _ _ _ _
        refine seq ?_
        refine region_draw mixed (by kernel_rfl) hS ?_
        refine qv (fun w hS => (yMove h5)) ?_
        refine qv (fun w hS => (yGtr rfl rfl)) ?_
        refine qv (fun w hS => (yMove rfl)) ?_
        refine qg rfl rfl rfl (fun g w hS => (fa202_0 rfl)) (fun v42 g42 => ?_)
        refine qg rfl rfl rfl (fun g w hS => (yLdB (g42.1 g) Tryz.isAgg3 (hS.at _) rfl)) (fun v43 g43 => ?_)
        refine qg rfl rfl rfl (fun g w hS => (fa85_0 h1)) (fun v44 g44 => ?_)
        refine qg rfl rfl rfl (fun g w hS => (yLdB (g44.1 g) Tryz.isAgg82 (hS.at _) rfl)) (fun v45 g45 => ?_)
        refine qg rfl rfl rfl (fun g w hS => (yMove h5)) (fun v46 g46 => ?_)
        refine qg rfl rfl rfl (fun g w hS => (ySub (g46.1 g) rfl ⟨by omega, by omega⟩)) (fun v47 g47 => ?_)
        refine qg rfl rfl rfl (fun g w hS => (yIxa (g45.1 g) (hay (of_decide_eq_true g)).1 (g47.1 g) Tryz.runUnderlying82 Tryz.sizeOf202 (by have := (of_decide_eq_true g); omega) (by have := (of_decide_eq_true g); omega))) (fun v48 g48 => ?_)
        refine qg rfl rfl rfl (fun g w hS => (fa202_0 (g48.1 g))) (fun v49 g49 => ?_)
        refine qg rfl rfl rfl (fun g w hS => (yLd (g49.1 g) Tryz.isAgg3 (((hay (of_decide_eq_true g)).2.ext hS.ext).at (j := 0) rfl))) (fun v50 g50 => ?_)
        refine qg rfl rfl rfl (fun g w hS => (yLeq (g43.1 g) (g50.1 g))) (fun v51 g51 => ?_)
        refine qg rfl rfl rfl (fun g w hS => (yMove (g51.1 g))) (fun v52 g52 => ?_)
        refine qgg rfl rfl g52 (fun g w hS => (fa202_1 rfl)) (fun v53 g53 => ?_)
        refine qgg rfl rfl g52 (fun g w hS => (yLdB (g53.1 g) Tryz.isAgg3 (hS.at _) rfl)) (fun v54 g54 => ?_)
        refine qgg rfl rfl g52 (fun g w hS => (fa85_0 h1)) (fun v55 g55 => ?_)
        refine qgg rfl rfl g52 (fun g w hS => (yLdB (g55.1 g) Tryz.isAgg82 (hS.at _) rfl)) (fun v56 g56 => ?_)
        refine qgg rfl rfl g52 (fun g w hS => (yMove h5)) (fun v57 g57 => ?_)
        refine qgg rfl rfl g52 (fun g w hS => (ySub (g57.1 g) rfl ⟨by omega, by omega⟩)) (fun v58 g58 => ?_)
        refine qgg rfl rfl g52 (fun g w hS => (yIxa (g56.1 g) (hay (of_decide_eq_true g.1)).1 (g58.1 g) Tryz.runUnderlying82 Tryz.sizeOf202 (by have := (of_decide_eq_true g.1); omega) (by have := (of_decide_eq_true g.1); omega))) (fun v59 g59 => ?_)
        refine qgg rfl rfl g52 (fun g w hS => (fa202_1 (g59.1 g))) (fun v60 g60 => ?_)
        refine qgg rfl rfl g52 (fun g w hS => (yLd (g60.1 g) Tryz.isAgg3 (((hay (of_decide_eq_true g.1)).2.ext hS.ext).at (j := 1) rfl))) (fun v61 g61 => ?_)
        refine qgg rfl rfl g52 (fun g w hS => (yLeq (g54.1 g) (g61.1 g))) (fun v62 g62 => ?_)
        refine qg rfl rfl rfl (fun g w hS => (yOr (g52.1 g) rfl (fun hB => (g62.1 ⟨g, hB⟩)))) (fun v63 g63 => ?_)
        refine qv (fun w hS => (yAnd rfl (fun hB => (g63.1 hB)) rfl)) ?_
        clear hS; refine qnil (fun w hS => ?_)
        show Code.wp _ _ _ _ _
        refine cond rfl (fun c64 => ?_) (fun c64 => ?_)
        ·
          simp only [BS, ne_eq] at c64
          refine seq ?_
          refine region ?_
          refine sv (yMove h5) ?_
          refine sv (yAsg rfl) ?_
          refine sv (yAsg rfl) ?_
          refine sv (yAsg rfl) ?_
          refine nil ?_
          show Code.wp _ _ _ _ _
          have hfin : checkB b = (1, (k : Int), 2) := by unfold checkB; rw [if_neg (by rw [h15]; decide), if_pos (by rw [hI, hm1, firstN_hit (by rw [rowE_2 h37 c64]; decide), rowE_2 h37 c64]; show (2 : Int) ≠ 0; decide), hI, hm1, firstN_hit (by rw [rowE_2 h37 c64]; decide), rowE_2 h37 c64]
          refine wp_ret (blockR (thenR (thenR (blockR (thenR ?_)))))
          exact retV (res3 rfl (fstI hfin) (thd1I hfin) (thd2I hfin)) hS.ext
        ·
          simp only [BS, ne_eq] at c64
          refine skip ?_
          show Code.wp _ _ _ _ _
          refine region ?_
          refine sv (yMove h5) ?_
          refine sv (yAdd rfl rfl ⟨by omega, by omega⟩) ?_
          refine sv (yAsg rfl) ?_
          refine nil ?_
          exact ⟨_, _, rfl, ⟨k + 1, h1, rfl, (hS.sub (.cons _ (List.Sublist.refl _))), (by omega), (by rw [hI, hm1, firstN_step (rowE_0 h37 c64), show m1 = b.rows.length - (k + 1) by omega]), rfl⟩, by omega⟩
    ·
      simp only [BS, ne_eq] at c20
      obtain rfl : k = b.rows.length := by omega
      have he1 : (firstN (rowE b) b.rows.length 0).2 = 0 := by rw [hI, Nat.sub_self]; rfl
      have hRW : ∀ i, i < b.rows.length → rowE b i = 0 := fun i hi => firstN_ok he1 i (Nat.zero_le _) (by omega)
      have hls : ∀ i, i + 1 < b.rows.length → lvB b i < lvB b (i + 1) := fun i hi => (rows_bd hRW hi).2.2.1
      refine exit ?_
      show Code.wp _ _ _ _ _
      refine seq ?_
      refine seq ?_
      refine region ?_
      refine sv (fa85_1 h1) ?_
      refine sv (yLdB rfl Tryz.isAgg3 (hS.at _) rfl) ?_
      refine scall Tryz.call128 (.cons rfl (.cons rfl (.cons rfl .nil))) c_in4 ?_
      rintro _ w ⟨rfl, hE⟩; replace hS := hS.step hE; clear hE
      refine sv (yNot rfl) ?_
      refine sv (yMove rfl) ?_
      refine sg rfl rfl rfl (fun g => (fa85_3 h1)) (fun v71 g71 => ?_)
      refine sg rfl rfl rfl (fun g => (yLdB (g71.1 g) Tryz.isAgg3 (hS.at _) rfl)) (fun v72 g72 => ?_)
      refine sgc hS rfl rfl rfl Tryz.call128 (fun g => (.cons (g72.1 g) (.cons rfl (.cons rfl .nil)))) (fun g => c_in4) ?_; clear hS; intro v73 w hS g73
      refine sg rfl rfl rfl (fun g => (yNot (g73.1 g))) (fun v74 g74 => ?_)
      refine sv (yOr rfl rfl (fun hB => (g74.1 hB))) ?_
      refine sv (yMove rfl) ?_
      refine sg rfl rfl rfl (fun g => (fa85_2 h1)) (fun v77 g77 => ?_)
      refine sg rfl rfl rfl (fun g => (yLdB (g77.1 g) Tryz.isAgg3 (hS.at _) rfl)) (fun v78 g78 => ?_)
      refine sgc hS rfl rfl rfl Tryz.call159 (fun g => (.cons (g78.1 g) .nil)) (fun g => c_level4) ?_; clear hS; intro v79 w hS g79
      refine sg rfl rfl rfl (fun g => (yNot (g79.1 g))) (fun v80 g80 => ?_)
      refine sv (yOr rfl rfl (fun hB => (g80.1 hB))) ?_
      refine nil ?_
      show Code.wp _ _ _ _ _
      refine cond rfl (fun c81 => ?_) (fun c81 => ?_)
      ·
        have h81 : (outB b.leak 0 10000 || outB b.over 0 10000 || outB b.crest (-20000) 20000) = true := by rw [← inB_not, ← inB_not, ← inB_not]; exact c81
        refine seq ?_
        refine region ?_
        refine sv (yAsg rfl) ?_
        refine sv (yAsg rfl) ?_
        refine sv (yAsg rfl) ?_
        refine nil ?_
        show Code.wp _ _ _ _ _
        have hfin : checkB b = (2, 0, 7) := by unfold checkB; rw [if_neg (by rw [h15]; decide), if_neg (fun h => h he1), if_pos h81]
        refine wp_ret (thenR ?_)
        exact retV (res3 rfl (fstI hfin) (thd1I hfin) (thd2I hfin)) hS.ext
      ·
        have h81 : (outB b.leak 0 10000 || outB b.over 0 10000 || outB b.crest (-20000) 20000) = false := by rw [← inB_not, ← inB_not, ← inB_not]; exact c81
        have hlb := great_leak h81
        refine skip ?_
        show Code.wp _ _ _ _ _
        refine seq ?_
        refine seq ?_
        refine region ?_
        refine sv (fa85_4 h1) ?_
        refine sv (yLdB rfl Tryz.isAgg83 (hS.at _) rfl) ?_
        refine sv (yLen rfl Tryz.underlying83) ?_
        refine sv (yGtr rfl rfl) ?_
        refine nil ?_
        show Code.wp _ _ _ _ _
        refine cond rfl (fun c85 => ?_) (fun c85 => ?_)
        ·
          simp only [BS, ne_eq] at c85
          refine seq ?_
          refine region ?_
          refine sv (yAsg rfl) ?_
          refine sv (yAsg rfl) ?_
          refine sv (yAsg rfl) ?_
          refine nil ?_
          show Code.wp _ _ _ _ _
          have hfin : checkB b = (3, 0, 3) := by unfold checkB; rw [if_neg (by rw [h15]; decide), if_neg (fun h => h he1), if_neg (by rw [h81]; decide), if_pos c85]
          refine wp_ret (thenR ?_)
          exact retV (res3 rfl (fstI hfin) (thd1I hfin) (thd2I hfin)) hS.ext
        ·
          simp only [BS, ne_eq] at c85
          refine skip ?_
          show Code.wp _ _ _ _ _
          refine seq ?_
          refine seq ?_
          refine region ?_
          refine sv (yAsg rfl) ?_
          refine nil ?_
          show Code.wp _ _ _ _ _
          refine block ?_
          refine loop (fun f w zz => ∃ (k : Nat), f 1 = .pointer (some ⟨b1, 0, none⟩) ∧ f 7 = .int .i64 (k : Int) ∧ StX [] w0 w [blk b1 [.slice ar b.rows.length cr, .int .i64 b.leak, .int .i64 b.crest, .int .i64 b.over, .slice ap b.pols.length cp] 85] ∧ (k ≤ b.pols.length) ∧ (namedR (·.name) (bpolE b) b.pols [] 0 = namedR (·.name) (bpolE b) (b.pols.drop k) ((b.pols.take k).map (·.name)) k) ∧ zz = b.pols.length - k) _ ⟨_, rfl, 0, h1, rfl, hS, (Nat.zero_le _), (rfl), rfl⟩ ?_
          clear hS
          rintro f w _ ⟨k, h1, h7, hS, hk, hI, rfl⟩
          refine seq ?_
          refine seq ?_
          refine region ?_
          refine sv (yMove h7) ?_
          refine sv (fa85_4 h1) ?_
          refine sv (yLdB rfl Tryz.isAgg83 (hS.at _) rfl) ?_
          refine sv (yLen rfl Tryz.underlying83) ?_
          refine sv (yLss rfl rfl) ?_
          refine nil ?_
          show Code.wp _ _ _ _ _
          refine cond rfl (fun c90 => ?_) (fun c90 => ?_)
          ·
            simp only [BS, ne_eq] at c90
            refine skip ?_
            show Code.wp _ _ _ _ _
            refine seq ?_
            refine block ?_
            refine seq ?_
            refine region ?_
            obtain ⟨x, hx, hd⟩ := drop_of (l := b.pols) (k := k) (by omega)
            refine sv (yLdBA h1 Tryz.isAgg85 Tryz.sizeOf85 (hS.at _) rfl rfl) ?_
            refine sv (yMove h7) ?_
            refine scall Tryz.call160 (.cons rfl (.cons rfl .nil)) (c_polder4 (h.ext hS.ext) hx (by omega)) ?_
            rintro _ w ⟨rfl, hE⟩; replace hS := hS.step hE; clear hE
            refine sv (yAsg rfl) ?_
            refine nil ?_
            show Code.wp _ _ _ _ _
            refine seq ?_
            refine region ?_
            refine sv (yMove rfl) ?_
            refine sv (yNeq rfl rfl) ?_
            refine nil ?_
            show Code.wp _ _ _ _ _
            refine cond rfl (fun c97 => ?_) (fun c97 => ?_)
            ·
              simp only [BS, ne_eq] at c97
              refine seq ?_
              refine region ?_
              refine sv (yMove h7) ?_
              refine sv (yMove rfl) ?_
              refine sv (yAsg rfl) ?_
              refine sv (yAsg rfl) ?_
              refine sv (yAsg rfl) ?_
              refine nil ?_
              show Code.wp _ _ _ _ _
              have hNE : namedR (·.name) (bpolE b) b.pols [] 0 = ((k : Int), errR (·.name) (bpolE b) b.pols k x) := hI.trans (namedR_hit hd c97)
              have hfin : checkB b = (3, (k : Int), errR (·.name) (bpolE b) b.pols k x) := by unfold checkB; rw [if_neg (by rw [h15]; decide), if_neg (fun h => h he1), if_neg (by rw [h81]; decide), if_neg c85, if_pos (by rw [hNE]; exact c97), hNE]
              refine wp_ret (blockR (thenR (thenR (blockR (thenR ?_)))))
              exact retV (res3 rfl (fstI hfin) (thd1I hfin) (thd2I hfin)) hS.ext
            ·
              simp only [BS, ne_eq] at c97
              refine skip ?_
              show Code.wp _ _ _ _ _
              refine region ?_
              refine sv (yMove h7) ?_
              refine sv (yAdd rfl rfl ⟨by omega, by omega⟩) ?_
              refine sv (yAsg rfl) ?_
              refine nil ?_
              exact ⟨_, _, rfl, ⟨k + 1, h1, rfl, hS, (by omega), (by rw [hI]; exact namedR_step hx hd c97), rfl⟩, by omega⟩
          ·
            simp only [BS, ne_eq] at c90
            have he2 : (namedR (·.name) (bpolE b) b.pols [] 0).2 = 0 := by rw [hI, namedR_end (by omega)]
            have htk := pols_take he2
            refine exit ?_
            show Code.wp _ _ _ _ _
            refine seq ?_
            refine region ?_
            refine sv (yLdBA h1 Tryz.isAgg85 Tryz.sizeOf85 (hS.at _) rfl rfl) ?_
            refine sv (fa85_1 h1) ?_
            refine sv (yLdB rfl Tryz.isAgg3 (hS.at _) rfl) ?_
            refine scall Tryz.call161 (.cons rfl (.cons rfl .nil)) (c_wide4 (h.ext hS.ext) (by omega) hRW hlb) ?_
            rintro _ w ⟨rfl, hE⟩; replace hS := hS.step hE; clear hE
            refine sv (yAsg rfl) ?_
            refine nil ?_
            show Code.wp _ _ _ _ _
            refine seq ?_
            refine seq ?_
            refine region ?_
            refine sv (yAsg rfl) ?_
            refine nil ?_
            show Code.wp _ _ _ _ _
            refine block ?_
            refine loop (fun f w zz => ∃ (k : Nat), f 1 = .pointer (some ⟨b1, 0, none⟩) ∧ f 9 = .bool (wideK b k) ∧ f 10 = .int .i64 (k : Int) ∧ StX [] w0 w [blk b1 [.slice ar b.rows.length cr, .int .i64 b.leak, .int .i64 b.crest, .int .i64 b.over, .slice ap b.pols.length cp] 85] ∧ (k ≤ b.pols.length) ∧ zz = b.pols.length - k) _ ⟨_, rfl, 0, h1, (rfl.trans (congrArg Value.bool (wideK_0 b).symm)), rfl, hS, (Nat.zero_le _), rfl⟩ ?_
            clear hS
            rintro f w _ ⟨k, h1, h9, h10, hS, hk, rfl⟩
            refine seq ?_
            refine seq ?_
            refine region ?_
            refine sv (yMove h10) ?_
            refine sv (fa85_4 h1) ?_
            refine sv (yLdB rfl Tryz.isAgg83 (hS.at _) rfl) ?_
            refine sv (yLen rfl Tryz.underlying83) ?_
            refine sv (yLss rfl rfl) ?_
            refine nil ?_
            show Code.wp _ _ _ _ _
            refine cond rfl (fun c108 => ?_) (fun c108 => ?_)
            ·
              simp only [BS, ne_eq] at c108
              obtain ⟨x, hx, hd⟩ := drop_of (l := b.pols) (k := k) (by omega)
              obtain ⟨bq, oq, csq, haq, hlq, hcsq, hRq, -⟩ := sl_at hsp hx
              obtain ⟨rfl, -⟩ := hRq
              have hxt := htk x (List.mem_of_getElem? hx)
              refine skip ?_
              show Code.wp _ _ _ _ _
              refine seq ?_
              refine block ?_
              refine region_draw mixed (by kernel_rfl) hS ?_
              refine qv (fun w hS => (yMove h9)) ?_
              refine qv (fun w hS => (yMove rfl)) ?_
              refine qg rfl rfl rfl (fun g w hS => (yLdBA h1 Tryz.isAgg85 Tryz.sizeOf85 (hS.at _) rfl rfl)) (fun v113 g113 => ?_)
              refine qg rfl rfl rfl (fun g w hS => (fa85_4 h1)) (fun v114 g114 => ?_)
              refine qg rfl rfl rfl (fun g w hS => (yLdB (g114.1 g) Tryz.isAgg83 (hS.at _) rfl)) (fun v115 g115 => ?_)
              refine qg rfl rfl rfl (fun g w hS => (yMove h10)) (fun v116 g116 => ?_)
              refine qg rfl rfl rfl (fun g w hS => (yIxa (g115.1 g) haq (g116.1 g) Tryz.runUnderlying83 Tryz.sizeOf204 (by omega) (by omega))) (fun v117 g117 => ?_)
              refine qg rfl rfl rfl (fun g w hS => (fa204_2 (g117.1 g))) (fun v118 g118 => ?_)
              refine qg rfl rfl rfl (fun g w hS => (yLd (g118.1 g) Tryz.isAgg3 ((hcsq.ext hS.ext).at (j := 2) rfl))) (fun v119 g119 => ?_)
              refine qgc rfl rfl rfl Tryz.call161 (fun g => (.cons (g113.1 g) (.cons (g119.1 g) .nil))) (fun g w hS => (c_wide4 (h.ext hS.ext) (by omega) hRW hxt)) (fun v120 g120 => ?_)
              refine qv (fun w hS => (yAnd rfl (fun hB => (g120.1 hB)) rfl)) ?_
              refine qv (fun w hS => (yAsg rfl)) ?_
              clear hS; refine qnil (fun w hS => ?_)
              show Code.wp _ _ _ _ _
              refine region ?_
              refine sv (yMove h10) ?_
              refine sv (yAdd rfl rfl ⟨by omega, by omega⟩) ?_
              refine sv (yAsg rfl) ?_
              refine nil ?_
              exact ⟨_, _, rfl, ⟨k + 1, h1, (rfl.trans (congrArg Value.bool (wideK_succ hx).symm)), rfl, hS, (by omega), rfl⟩, by omega⟩
            ·
              simp only [BS, ne_eq] at c108
              obtain rfl : k = b.pols.length := by omega
              rw [wideK_all hls] at h9
              refine exit ?_
              show Code.wp _ _ _ _ _
              refine seq ?_
              refine seq ?_
              refine region ?_
              refine sv (yMove h9) ?_
              refine sv (yNot rfl) ?_
              refine nil ?_
              show Code.wp _ _ _ _ _
              refine cond rfl (fun c123 => ?_) (fun c123 => ?_)
              ·
                have hw : ¬ WideB b (greatB b b.pols) := by simpa using c123
                refine seq ?_
                refine region ?_
                refine sv (yAsg rfl) ?_
                refine sv (yAsg rfl) ?_
                refine sv (yAsg rfl) ?_
                refine nil ?_
                show Code.wp _ _ _ _ _
                have hfin : checkB b = (4, 0, 2) := by unfold checkB; rw [if_neg (by rw [h15]; decide), if_neg (fun h => h he1), if_neg (by rw [h81]; decide), if_neg c85, if_neg (fun h => h he2), if_pos hw]
                refine wp_ret (thenR ?_)
                exact retV (res3 rfl (fstI hfin) (thd1I hfin) (thd2I hfin)) hS.ext
              ·
                have hw : WideB b (greatB b b.pols) := by simpa using c123
                refine skip ?_
                show Code.wp _ _ _ _ _
                refine seq ?_
                refine region ?_
                refine sv (yAsg rfl) ?_
                refine sv (yAsg rfl) ?_
                refine sv (yAsg rfl) ?_
                refine nil ?_
                show Code.wp _ _ _ _ _
                have hfin : checkB b = (0, 0, 0) := by unfold checkB; rw [if_neg (by rw [h15]; decide), if_neg (fun h => h he1), if_neg (by rw [h81]; decide), if_neg c85, if_neg (fun h => h he2), if_neg (fun k => k hw)]
                refine wp_ret ?_
                exact retV (res3 rfl (fstI hfin) (thd1I hfin) (thd2I hfin)) hS.ext
/-- barrage/barrageref04.good -/
theorem c_good4 {b : Bas} {cs : List Value} {w0 : World} (h : RBas w0 cs b) : CV Tryz.prog 126 #[.agg cs.toArray] w0 (.int .i64 (checkB b).2.2) := by
  obtain ⟨rv, pv, rfl, hsr, hlk, hcr, hov, hsp⟩ := id h
  obtain ⟨ar, cr, rfl, hrcap, hrmx, hrel⟩ := id hsr
  obtain ⟨ap, cp, rfl, hpcap, hpmx, hpel⟩ := id hsp
  refine enter Tryz.func126 rfl Tryz.ntmps126 rfl ?_
  have hS := St.start w0
  refine seq ?_
  refine region ?_
  refine sbox hS rfl rfl ?_; clear hS; intro b1 w hS
  refine sv (yAsg rfl) ?_
  refine nil ?_
  show Code.wp _ _ _ _ _
  refine seq ?_
  refine region ?_
  refine sv (yLdBA rfl Tryz.isAgg85 Tryz.sizeOf85 (hS.at _) rfl rfl) ?_
  refine scall Tryz.call142 (.cons rfl .nil) (c_ChkR4 (h.ext hS.ext)) ?_
  rintro _ w ⟨rfl, hE⟩; replace hS := hS.step hE; clear hE
  refine sv (yMove rfl) ?_
  refine sv (yExt rfl rfl) ?_
  refine sv (yExt rfl rfl) ?_
  refine sv (yExt rfl rfl) ?_
  refine sv (yAsg rfl) ?_
  refine sv (yAsg rfl) ?_
  refine sv (yAsg rfl) ?_
  refine nil ?_
  show Code.wp _ _ _ _ _
  refine seq ?_
  refine region ?_
  refine sv (yMove rfl) ?_
  refine sv (yAsg rfl) ?_
  refine nil ?_
  show Code.wp _ _ _ _ _
  refine wp_ret ?_
  exact retV (res1 rfl rfl) hS.ext
/-- barrage/barrageref04.stored -/
theorem c_stored4 {b : Bas} {cs : List Value} {v : Int} {w0 : World} (h : RBas w0 cs b) (hrl : 2 ≤ b.rows.length) : CV Tryz.prog 127 #[.agg cs.toArray, .int .i64 v] w0 (.bool (inB v (vlB b 0) 1000000000)) := by
  obtain ⟨rv, pv, rfl, hsr, hlk, hcr, hov, hsp⟩ := id h
  obtain ⟨ar, cr, rfl, hrcap, hrmx, hrel⟩ := id hsr
  obtain ⟨ap, cp, rfl, hpcap, hpmx, hpel⟩ := id hsp
  obtain ⟨br0, or0, cr0, har0, hlr0, hcr0, hRr0, -⟩ := sl_at hsr (brow_get (b := b) (show 0 < b.rows.length by omega))
  obtain ⟨rfl, hr01, hr02⟩ := hRr0
  refine enter Tryz.func127 rfl Tryz.ntmps127 rfl ?_
  have hS := St.start w0
  refine seq ?_
  refine region ?_
  refine sbox hS rfl rfl ?_; clear hS; intro b2 w hS
  refine sv (yAsg rfl) ?_
  refine nil ?_
  show Code.wp _ _ _ _ _
  refine seq ?_
  refine region ?_
  refine sv (yMove rfl) ?_
  refine sv (fa85_0 rfl) ?_
  refine sv (yLdB rfl Tryz.isAgg82 (hS.at _) rfl) ?_
  refine sv (yIxa rfl har0 rfl Tryz.runUnderlying82 Tryz.sizeOf202 (by omega) (by omega)) ?_
  refine sv (fa202_1 rfl) ?_
  refine sv (yLd rfl Tryz.isAgg3 ((hcr0.ext hS.ext).at (j := 1) rfl)) ?_
  refine scall Tryz.call128 (.cons rfl (.cons rfl (.cons rfl .nil))) c_in4 ?_
  rintro _ w ⟨rfl, hE⟩; replace hS := hS.step hE; clear hE
  refine sv (yAsg rfl) ?_
  refine nil ?_
  show Code.wp _ _ _ _ _
  refine wp_ret ?_
  exact retV (res1 rfl rfl) hS.ext
set_option maxHeartbeats 1000000 in
/-- barrage/barrageref04.CheckState -/
theorem c_CheckState4 {b : Bas} {cs : List Value} {s : BSt} {qs : List Value} {w0 : World} (h : RBas w0 cs b) (hsq : RBst w0 qs s) : CV Tryz.prog 97 #[.agg cs.toArray, .agg qs.toArray] w0 (.int .i64 (stB b s)) := by
  obtain ⟨rv, pv, rfl, hsr, hlk, hcr, hov, hsp⟩ := id h
  obtain ⟨ar, cr, rfl, hrcap, hrmx, hrel⟩ := id hsr
  obtain ⟨ap, cp, rfl, hpcap, hpmx, hpel⟩ := id hsp
  obtain ⟨fv, rfl, hsv, hsf, hsm⟩ := id hsq
  obtain ⟨af, cf, rfl, hfcap, hfmx, hfel⟩ := id hsf
  refine enter Tryz.func97 rfl Tryz.ntmps97 rfl ?_
  have hS := St.start w0
  refine seq ?_
  refine region ?_
  refine sbox hS rfl rfl ?_; clear hS; intro b2 w hS
  refine sbox hS rfl rfl ?_; clear hS; intro b3 w hS
  refine sv (yAsg rfl) ?_
  refine nil ?_
  show Code.wp _ _ _ _ _
  refine seq ?_
  refine region ?_
  refine sv (yLdBA rfl Tryz.isAgg85 Tryz.sizeOf85 (hS.at _) rfl rfl) ?_
  refine scall Tryz.call126 (.cons rfl .nil) (c_good4 (h.ext hS.ext)) ?_
  rintro _ w ⟨rfl, hE⟩; replace hS := hS.step hE; clear hE
  refine sv (yAsg rfl) ?_
  refine nil ?_
  show Code.wp _ _ _ _ _
  refine seq ?_
  refine seq ?_
  refine region ?_
  refine sv (yMove rfl) ?_
  refine sv (yNeq rfl rfl) ?_
  refine nil ?_
  show Code.wp _ _ _ _ _
  refine cond rfl (fun c11 => ?_) (fun c11 => ?_)
  ·
    simp only [BS, ne_eq] at c11
    refine seq ?_
    refine region ?_
    refine sv (yMove rfl) ?_
    refine sv (yAsg rfl) ?_
    refine nil ?_
    show Code.wp _ _ _ _ _
    refine wp_ret (thenR ?_)
    exact retV (res1 rfl (eqI (if_pos c11))) hS.ext
  ·
    simp only [BS, ne_eq] at c11
    have hck : (checkB b).2.2 = 0 := by omega
    have hbo := check_ok hck
    have hrl := hbo.len
    refine skip ?_
    show Code.wp _ _ _ _ _
    refine seq ?_
    refine seq ?_
    refine region ?_
    refine sv (fa87_1 rfl) ?_
    refine sv (yLdB rfl Tryz.isAgg34 (hS.at _) rfl) ?_
    refine sv (yLen rfl Tryz.underlying34) ?_
    refine sv (fa85_4 rfl) ?_
    refine sv (yLdB rfl Tryz.isAgg83 (hS.at _) rfl) ?_
    refine sv (yLen rfl Tryz.underlying83) ?_
    refine sv (yNeq rfl rfl) ?_
    refine nil ?_
    show Code.wp _ _ _ _ _
    refine cond rfl (fun c19 => ?_) (fun c19 => ?_)
    ·
      simp only [BS, ne_eq] at c19
      refine seq ?_
      refine region ?_
      refine sv (yAsg rfl) ?_
      refine nil ?_
      show Code.wp _ _ _ _ _
      refine wp_ret (thenR ?_)
      exact retV (res1 rfl (eqI (by unfold stB; rw [if_neg (fun k => k hck), if_pos c19]))) hS.ext
    ·
      simp only [BS, ne_eq] at c19
      have hfe := stB_fine (s := s) hck (by omega)
      refine skip ?_
      show Code.wp _ _ _ _ _
      refine seq ?_
      refine region ?_
      refine sv (yLdBA rfl Tryz.isAgg85 Tryz.sizeOf85 (hS.at _) rfl rfl) ?_
      refine sv (fa87_0 rfl) ?_
      refine sv (yLdB rfl Tryz.isAgg3 (hS.at _) rfl) ?_
      refine scall Tryz.call127 (.cons rfl (.cons rfl .nil)) (c_stored4 (h.ext hS.ext) (by omega)) ?_
      rintro _ w ⟨rfl, hE⟩; replace hS := hS.step hE; clear hE
      refine sv (yAsg rfl) ?_
      refine nil ?_
      show Code.wp _ _ _ _ _
      refine seq ?_
      refine seq ?_
      refine region ?_
      refine sv (yAsg rfl) ?_
      refine nil ?_
      show Code.wp _ _ _ _ _
      refine block ?_
      refine loop (fun f w zz => ∃ (k : Nat), f 2 = .pointer (some ⟨b2, 0, none⟩) ∧ f 3 = .pointer (some ⟨b3, 0, none⟩) ∧ f 6 = .bool (fineK b s k) ∧ f 7 = .int .i64 (k : Int) ∧ StX [] w0 w [blk b3 [.int .i64 s.volume, .slice af s.filled.length cf] 87, blk b2 [.slice ar b.rows.length cr, .int .i64 b.leak, .int .i64 b.crest, .int .i64 b.over, .slice ap b.pols.length cp] 85] ∧ (k ≤ s.filled.length) ∧ zz = s.filled.length - k) _ ⟨_, rfl, 0, rfl, rfl, (rfl.trans (congrArg Value.bool (fineK_0 b s).symm)), rfl, hS, (Nat.zero_le _), rfl⟩ ?_
      clear hS
      rintro f w _ ⟨k, h2, h3, h6, h7, hS, hk, rfl⟩
      refine seq ?_
      refine seq ?_
      refine region ?_
      refine sv (yMove h7) ?_
      refine sv (fa87_1 h3) ?_
      refine sv (yLdB rfl Tryz.isAgg34 (hS.at _) rfl) ?_
      refine sv (yLen rfl Tryz.underlying34) ?_
      refine sv (yLss rfl rfl) ?_
      refine nil ?_
      show Code.wp _ _ _ _ _
      refine cond rfl (fun c28 => ?_) (fun c28 => ?_)
      ·
        simp only [BS, ne_eq] at c28
        obtain ⟨bx, ox, cx, hax, hlx, hcx, hRx, -⟩ := sl_at hsf (flB_get (l := s.filled) (show k < s.filled.length by omega))
        obtain ⟨rfl, hxi⟩ := hRx
        obtain ⟨bp, op, csp, hap, hlp, hcsp, hRp, -⟩ := sl_at hsp (plB_get (b := b) (show k < b.pols.length by omega))
        obtain ⟨rfl, -⟩ := hRp
        refine skip ?_
        show Code.wp _ _ _ _ _
        refine seq ?_
        refine block ?_
        refine region_draw mixed (by kernel_rfl) hS ?_
        refine qv (fun w hS => (yMove h6)) ?_
        refine qv (fun w hS => (yMove rfl)) ?_
        refine qg rfl rfl rfl (fun g w hS => (fa87_1 h3)) (fun v33 g33 => ?_)
        refine qg rfl rfl rfl (fun g w hS => (yLdB (g33.1 g) Tryz.isAgg34 (hS.at _) rfl)) (fun v34 g34 => ?_)
        refine qg rfl rfl rfl (fun g w hS => (yMove h7)) (fun v35 g35 => ?_)
        refine qg rfl rfl rfl (fun g w hS => (yIxa (g34.1 g) hax (g35.1 g) Tryz.runUnderlying34 Tryz.sizeOf3 (by omega) (by omega))) (fun v36 g36 => ?_)
        refine qg rfl rfl rfl (fun g w hS => (yLd (g36.1 g) Tryz.isAgg3 ((hcx.ext hS.ext).one))) (fun v37 g37 => ?_)
        refine qg rfl rfl rfl (fun g w hS => (fa85_4 h2)) (fun v38 g38 => ?_)
        refine qg rfl rfl rfl (fun g w hS => (yLdB (g38.1 g) Tryz.isAgg83 (hS.at _) rfl)) (fun v39 g39 => ?_)
        refine qg rfl rfl rfl (fun g w hS => (yMove h7)) (fun v40 g40 => ?_)
        refine qg rfl rfl rfl (fun g w hS => (yIxa (g39.1 g) hap (g40.1 g) Tryz.runUnderlying83 Tryz.sizeOf204 (by omega) (by omega))) (fun v41 g41 => ?_)
        refine qg rfl rfl rfl (fun g w hS => (fa204_3 (g41.1 g))) (fun v42 g42 => ?_)
        refine qg rfl rfl rfl (fun g w hS => (yLd (g42.1 g) Tryz.isAgg3 ((hcsp.ext hS.ext).at (j := 3) rfl))) (fun v43 g43 => ?_)
        refine qgc rfl rfl rfl Tryz.call128 (fun g => (.cons (g37.1 g) (.cons rfl (.cons (g43.1 g) .nil)))) (fun g w hS => c_in4) (fun v44 g44 => ?_)
        refine qv (fun w hS => (yAnd rfl (fun hB => (g44.1 hB)) rfl)) ?_
        refine qv (fun w hS => (yAsg rfl)) ?_
        clear hS; refine qnil (fun w hS => ?_)
        show Code.wp _ _ _ _ _
        refine region ?_
        refine sv (yMove h7) ?_
        refine sv (yAdd rfl rfl ⟨by omega, by omega⟩) ?_
        refine sv (yAsg rfl) ?_
        refine nil ?_
        exact ⟨_, _, rfl, ⟨k + 1, h2, h3, (rfl.trans (congrArg Value.bool (fineK_succ b s k).symm)), rfl, hS, (by omega), rfl⟩, by omega⟩
      ·
        simp only [BS, ne_eq] at c28
        obtain rfl : k = s.filled.length := by omega
        refine exit ?_
        show Code.wp _ _ _ _ _
        refine seq ?_
        refine seq ?_
        refine region ?_
        refine sv (yMove h6) ?_
        refine sv (yNot rfl) ?_
        refine nil ?_
        show Code.wp _ _ _ _ _
        refine cond rfl (fun c47 => ?_) (fun c47 => ?_)
        ·
          refine seq ?_
          refine region ?_
          refine sv (yAsg rfl) ?_
          refine nil ?_
          show Code.wp _ _ _ _ _
          refine wp_ret (thenR ?_)
          exact retV (res1 rfl (eqI (by rw [hfe, if_neg (by simpa using c47)]))) hS.ext
        ·
          refine skip ?_
          show Code.wp _ _ _ _ _
          refine seq ?_
          refine region ?_
          refine sv (yAsg rfl) ?_
          refine nil ?_
          show Code.wp _ _ _ _ _
          refine wp_ret ?_
          exact retV (res1 rfl (eqI (by rw [hfe, if_pos (by simpa using c47)]))) hS.ext
end Go.Proofs.YtmoilbakmlekbaaGreatDoor

/- part Aw62 -/
namespace Go.Proofs.YtmoilbakmlekbaaGreatDoor
open Go Bx
set_option maxHeartbeats 4000000 in
/-- barrage/barrageref04.step -/
theorem c_step4 {b : Bas} {cs : List Value} {s : BSt} {qs : List Value} {t : BTk} {w0 : World} (h : RBas w0 cs b) (hsq : RBst w0 qs s) (hok : BasOk b) (hso : BstOk b s) (hI : I64 t.outer ∧ I64 t.river ∧ I64 t.out) : CE Tryz.prog 143 #[.agg cs.toArray, .agg qs.toArray, .agg (btkC t).toArray] w0 (fun u w' => (stepE b s t ≠ 0 ∧ u = .tuple #[.agg (.int .i64 0 :: .slice none 0 0 :: []).toArray, .agg (.int .i64 0 :: .int .i64 0 :: .int .i64 0 :: .int .i64 0 :: .slice none 0 0 :: []).toArray, .int .i64 (stepE b s t)] ∧ Ext w0 w') ∨ (stepE b s t = 0 ∧ ∃ a1 n1 c1 a2 n2 c2 it, u = .tuple #[.agg (.int .i64 (stepS b s t).volume :: .slice a1 n1 c1 :: []).toArray, .agg (flC (stepF b s t) (.slice a2 n2 c2)).toArray, .int .i64 0] ∧ (∀ w, it.ok w → RBst w [.int .i64 (stepS b s t).volume, .slice a1 n1 c1] (stepS b s t) ∧ RBfl w (flC (stepF b s t) (.slice a2 n2 c2)) (stepF b s t)) ∧ StX [] w0 w' [it])) := by
  obtain ⟨rv, pv, rfl, hsr, hlk, hcr, hov, hsp⟩ := id h
  obtain ⟨ar, cr, rfl, hrcap, hrmx, hrel⟩ := id hsr
  obtain ⟨ap, cp, rfl, hpcap, hpmx, hpel⟩ := id hsp
  obtain ⟨fv, rfl, hsv, hsf, hsm⟩ := id hsq
  obtain ⟨af, cf, rfl, hfcap, hfmx, hfel⟩ := id hsf
  have hsl := hso.len
  have hnp := hok.npol
  have hrl := hok.len
  obtain ⟨br0, or0, cr0, har0, hlr0, hcr0, hRr0, -⟩ := sl_at hsr (brow_get (b := b) (show 0 < b.rows.length by omega))
  obtain ⟨rfl, hr01, hr02⟩ := hRr0
  refine enter Tryz.func143 rfl Tryz.ntmps143 rfl ?_
  have hS := St.start w0
  refine seq ?_
  refine region ?_
  refine sbox hS rfl rfl ?_; clear hS; intro b3 w hS
  refine sbox hS rfl rfl ?_; clear hS; intro b4 w hS
  refine sbox hS rfl rfl ?_; clear hS; intro b5 w hS
  refine salloc hS Tryz.zeroValue87 rfl ?_; clear hS; intro b6 w hS
  refine salloc hS Tryz.zeroValue172 rfl ?_; clear hS; intro b7 w hS
  refine sv (yAsg rfl) ?_
  refine nil ?_
  show Code.wp _ _ _ _ _
  refine seq ?_
  refine seq ?_
  refine region ?_
  refine sv (fa96_0 rfl) ?_
  refine sv (yLdB rfl Tryz.isAgg3 (hS.at _) rfl) ?_
  refine scall Tryz.call159 (.cons rfl .nil) c_level4 ?_
  rintro _ w ⟨rfl, hE⟩; replace hS := hS.step hE; clear hE
  refine sv (yNot rfl) ?_
  refine sv (yMove rfl) ?_
  refine sg rfl rfl rfl (fun g => (fa96_1 rfl)) (fun v25 g25 => ?_)
  refine sg rfl rfl rfl (fun g => (yLdB (g25.1 g) Tryz.isAgg3 (hS.at _) rfl)) (fun v26 g26 => ?_)
  refine sgc hS rfl rfl rfl Tryz.call128 (fun g => (.cons (g26.1 g) (.cons rfl (.cons rfl .nil)))) (fun g => c_in4) ?_; clear hS; intro v27 w hS g27
  refine sg rfl rfl rfl (fun g => (yNot (g27.1 g))) (fun v28 g28 => ?_)
  refine sv (yOr rfl rfl (fun hB => (g28.1 hB))) ?_
  refine sv (yMove rfl) ?_
  refine sg rfl rfl rfl (fun g => (fa96_2 rfl)) (fun v31 g31 => ?_)
  refine sg rfl rfl rfl (fun g => (yLdB (g31.1 g) Tryz.isAgg3 (hS.at _) rfl)) (fun v32 g32 => ?_)
  refine sgc hS rfl rfl rfl Tryz.call128 (fun g => (.cons (g32.1 g) (.cons rfl (.cons rfl .nil)))) (fun g => c_in4) ?_; clear hS; intro v33 w hS g33
  refine sg rfl rfl rfl (fun g => (yNot (g33.1 g))) (fun v34 g34 => ?_)
  refine sv (yOr rfl rfl (fun hB => (g34.1 hB))) ?_
  refine nil ?_
  show Code.wp _ _ _ _ _
  refine cond rfl (fun c35 => ?_) (fun c35 => ?_)
  ·
    have htb : tkBad t = true := (tkBad_in t).symm.trans c35
    refine seq ?_
    refine region ?_
    refine sv (yBuild Tryz.zeroValue87 rfl pl87 .nil rfl) ?_
    refine sv (yBuild Tryz.zeroValue172 rfl pl172 .nil rfl) ?_
    refine sst hS rfl rfl Tryz.sizeOf87 rfl rfl rfl rfl ?_; clear hS; intro w hS
    refine sst hS rfl rfl Tryz.sizeOf172 rfl rfl rfl rfl ?_; clear hS; intro w hS
    refine sv (yAsg rfl) ?_
    refine nil ?_
    show Code.wp _ _ _ _ _
    refine wp_ret (thenR ?_)
    refine retQ (resV3 rfl (rc rfl Tryz.isAgg87 Tryz.sizeOf87 (hS.at _) rfl rfl) (rc rfl Tryz.isAgg172 Tryz.sizeOf172 (hS.at _) rfl rfl) (rt rfl)) ?_
    have hE := stepE_bad (b := b) (s := s) htb
    exact .inl ⟨by rw [hE]; decide, by rw [hE]; rfl, hS.ext⟩
  ·
    have htb : tkBad t = false := (tkBad_in t).symm.trans c35
    have ht := tk_ok htb
    have hob := ovB_bd hok hso ht
    have hob2 := ovB_bd hok hso ht
    obtain ⟨q1, q2, q3⟩ := ht
    have hcrb := hok.crest
    have hv0b := hok.vl 0 (by omega)
    have hsvb := hso.vol
    unfold ovB at hob
    refine skip ?_
    show Code.wp _ _ _ _ _
    refine seq ?_
    refine region ?_
    refine sv (fa96_1 rfl) ?_
    refine sv (yLdB rfl Tryz.isAgg3 (hS.at _) rfl) ?_
    refine sv (fa85_3 rfl) ?_
    refine sv (yLdB rfl Tryz.isAgg3 (hS.at _) rfl) ?_
    refine sv (fa96_0 rfl) ?_
    refine sv (yLdB rfl Tryz.isAgg3 (hS.at _) rfl) ?_
    refine sv (fa85_2 rfl) ?_
    refine sv (yLdB rfl Tryz.isAgg3 (hS.at _) rfl) ?_
    refine sv (ySub rfl rfl ⟨by omega, by omega⟩) ?_
    refine sv (yMax rfl rfl) ?_
    refine sv (yMul rfl rfl ⟨by omega, by omega⟩) ?_
    refine sv (yBuild Tryz.zeroValue172 rfl pl172 (.cons rfl rfl (.cons rfl rfl .nil)) rfl) ?_
    refine salloc hS Tryz.zeroValue172 rfl ?_; clear hS; intro b9 w hS
    refine sst hS rfl rfl Tryz.sizeOf172 rfl rfl rfl rfl ?_; clear hS; intro w hS
    refine nil ?_
    show Code.wp _ _ _ _ _
    refine seq ?_
    refine region ?_
    replace hS : StX [] w0 w [blk b9 [.int .i64 t.river, .int .i64 (ovB b t), .int .i64 (0), .int .i64 (0), .slice none 0 0] 172, blk b7 [.int .i64 0, .int .i64 0, .int .i64 0, .int .i64 0, .slice none 0 0] 172, blk b6 [.int .i64 0, .slice none 0 0] 87, blk b5 (btkC t) 96, blk b4 [.int .i64 s.volume, .slice af s.filled.length cf] 87, blk b3 [.slice ar b.rows.length cr, .int .i64 b.leak, .int .i64 b.crest, .int .i64 b.over, .slice ap b.pols.length cp] 85] := hS
    refine sv (fa85_0 rfl) ?_
    refine sv (yLdB rfl Tryz.isAgg82 (hS.at _) rfl) ?_
    refine sv (yIxa rfl har0 rfl Tryz.runUnderlying82 Tryz.sizeOf202 (by omega) (by omega)) ?_
    refine sv (fa202_1 rfl) ?_
    refine sv (yLd rfl Tryz.isAgg3 ((hcr0.ext hS.ext).at (j := 1) rfl)) ?_
    refine sv (yAsg rfl) ?_
    refine nil ?_
    show Code.wp _ _ _ _ _
    refine seq ?_
    refine cutK (fun f => f 3 = .pointer (some ⟨b3, 0, none⟩) ∧ f 4 = .pointer (some ⟨b4, 0, none⟩) ∧ f 5 = .pointer (some ⟨b5, 0, none⟩) ∧ f 6 = .pointer (some ⟨b6, 0, none⟩) ∧ f 7 = .pointer (some ⟨b7, 0, none⟩) ∧ f 9 = .pointer (some ⟨b9, 0, none⟩) ∧ f 10 = .int .i64 (vlB b 0) ∧ True) ⟨rfl, rfl, rfl, rfl, rfl, rfl, rfl, trivial⟩ ?_
    rintro f ⟨h3, h4, h5, h6, h7, h9, h10, -⟩
    refine region ?_
    refine sv (fa87_0 h4) ?_
    refine sv (yLdB rfl Tryz.isAgg3 (hS.at _) rfl) ?_
    refine sv (fa172_0 h9) ?_
    refine sv (yLdB rfl Tryz.isAgg3 (hS.at _) rfl) ?_
    refine sv (yAdd rfl rfl ⟨by omega, by omega⟩) ?_
    refine sv (yAsg rfl) ?_
    refine nil ?_
    show Code.wp _ _ _ _ _
    refine seq ?_
    refine seq ?_
    refine region ?_
    refine sv (yMove rfl) ?_
    refine sv (yGtr rfl rfl) ?_
    refine nil ?_
    show Code.wp _ _ _ _ _
    refine cond rfl (fun c61 => ?_) (fun c61 => ?_)
    ·
      simp only [BS, ne_eq] at c61
      refine seq ?_
      refine region ?_
      refine sv (yBuild Tryz.zeroValue87 rfl pl87 .nil rfl) ?_
      refine sv (yBuild Tryz.zeroValue172 rfl pl172 .nil rfl) ?_
      refine sst hS h6 rfl Tryz.sizeOf87 rfl rfl rfl rfl ?_; clear hS; intro w hS
      refine sst hS h7 rfl Tryz.sizeOf172 rfl rfl rfl rfl ?_; clear hS; intro w hS
      refine sv (yAsg rfl) ?_
      refine nil ?_
      show Code.wp _ _ _ _ _
      refine wp_ret (thenR ?_)
      refine retQ (resV3 rfl (rc h6 Tryz.isAgg87 Tryz.sizeOf87 (hS.at _) rfl rfl) (rc h7 Tryz.isAgg172 Tryz.sizeOf172 (hS.at _) rfl rfl) (rt rfl)) ?_
      have hE := stepE_long (b := b) htb (show 0 < 5 by omega) (show (!decide (1000000000 < v1B s t)) = false by rw [show decide (1000000000 < v1B s t) = true from decide_eq_true c61]; rfl)
      exact .inl ⟨by rw [hE]; decide, by rw [hE]; rfl, hS.ext⟩
    ·
      simp only [BS, ne_eq] at c61
      have h1n : ¬ 1000000000 < v1B s t := c61
      have hv1e : v1B s t = s.volume + t.river := rfl
      refine skip ?_
      show Code.wp _ _ _ _ _
      refine seq ?_
      refine cutK (fun f => f 3 = .pointer (some ⟨b3, 0, none⟩) ∧ f 4 = .pointer (some ⟨b4, 0, none⟩) ∧ f 5 = .pointer (some ⟨b5, 0, none⟩) ∧ f 6 = .pointer (some ⟨b6, 0, none⟩) ∧ f 7 = .pointer (some ⟨b7, 0, none⟩) ∧ f 9 = .pointer (some ⟨b9, 0, none⟩) ∧ f 10 = .int .i64 (vlB b 0) ∧ f 11 = .int .i64 (v1B s t) ∧ True) ⟨h3, h4, h5, h6, h7, h9, h10, rfl, trivial⟩ ?_
      rintro f ⟨h3, h4, h5, h6, h7, h9, h10, h11, -⟩
      refine region ?_
      refine sv (yMove h11) ?_
      refine sv (fa172_1 h9) ?_
      refine sv (yLdB rfl Tryz.isAgg3 (hS.at _) rfl) ?_
      refine sv (yAdd rfl rfl ⟨by omega, by omega⟩) ?_
      refine sv (yAsg rfl) ?_
      refine nil ?_
      show Code.wp _ _ _ _ _
      refine seq ?_
      refine seq ?_
      refine region ?_
      refine sv (yMove rfl) ?_
      refine sv (yGtr rfl rfl) ?_
      refine nil ?_
      show Code.wp _ _ _ _ _
      refine cond rfl (fun c69 => ?_) (fun c69 => ?_)
      ·
        simp only [BS, ne_eq] at c69
        refine seq ?_
        refine region ?_
        refine sv (yBuild Tryz.zeroValue87 rfl pl87 .nil rfl) ?_
        refine sv (yBuild Tryz.zeroValue172 rfl pl172 .nil rfl) ?_
        refine sst hS h6 rfl Tryz.sizeOf87 rfl rfl rfl rfl ?_; clear hS; intro w hS
        refine sst hS h7 rfl Tryz.sizeOf172 rfl rfl rfl rfl ?_; clear hS; intro w hS
        refine sv (yAsg rfl) ?_
        refine nil ?_
        show Code.wp _ _ _ _ _
        refine wp_ret (thenR ?_)
        refine retQ (resV3 rfl (rc h6 Tryz.isAgg87 Tryz.sizeOf87 (hS.at _) rfl rfl) (rc h7 Tryz.isAgg172 Tryz.sizeOf172 (hS.at _) rfl rfl) (rt rfl)) ?_
        have hE := stepE_long (b := b) htb (show 1 < 5 by omega) (show (!decide (1000000000 < v2B b s t)) = false by rw [show decide (1000000000 < v2B b s t) = true from decide_eq_true c69]; rfl)
        exact .inl ⟨by rw [hE]; decide, by rw [hE]; rfl, hS.ext⟩
      ·
        simp only [BS, ne_eq] at c69
        have h2n : ¬ 1000000000 < v2B b s t := c69
        have ht : TkOk t := ⟨q1, q2, q3⟩
        have hv2 : vlB b 0 ≤ v2B b s t ∧ v2B b s t ≤ 1000000000 := ⟨(v2_bd hok hso ht).1, by omega⟩
        obtain ⟨l1, l2⟩ := leak_mul hok hso ht hv2.1 hv2.2
        have hnb := exN_bd hok hv2.1 hv2.2
        have hdb := exD_bd hok (v2B b s t)
        have hlkb := lk_bd hok hso ht hv2.2
        have h3b := v3_bd hok hso ht hv2.2
        have hqb := quo_bd hok hso ht (lo := 800000000000000000) (hi := 400000000000000000) hdb.1 l2 (by omega) (by omega)
        refine skip ?_
        show Code.wp _ _ _ _ _
        refine seq ?_
        refine cutK (fun f => f 3 = .pointer (some ⟨b3, 0, none⟩) ∧ f 4 = .pointer (some ⟨b4, 0, none⟩) ∧ f 5 = .pointer (some ⟨b5, 0, none⟩) ∧ f 6 = .pointer (some ⟨b6, 0, none⟩) ∧ f 7 = .pointer (some ⟨b7, 0, none⟩) ∧ f 9 = .pointer (some ⟨b9, 0, none⟩) ∧ f 10 = .int .i64 (vlB b 0) ∧ f 11 = .int .i64 (v2B b s t) ∧ True) ⟨h3, h4, h5, h6, h7, h9, h10, rfl, trivial⟩ ?_
        rintro f ⟨h3, h4, h5, h6, h7, h9, h10, h11, -⟩
        refine region ?_
        refine sv (yLdBA h3 Tryz.isAgg85 Tryz.sizeOf85 (hS.at _) rfl rfl) ?_
        refine sv (yMove h11) ?_
        refine scall Tryz.call162 (.cons rfl (.cons rfl .nil)) (c_exact4 (v := v2B b s t) (h.ext hS.ext) hok hv2) ?_
        rintro _ w ⟨rfl, hE⟩; replace hS := hS.step hE; clear hE
        refine sv (yMove rfl) ?_
        refine sv (yExt rfl rfl) ?_
        refine sv (yExt rfl rfl) ?_
        refine sv (yAsg rfl) ?_
        refine sv (yAsg rfl) ?_
        refine nil ?_
        show Code.wp _ _ _ _ _
        refine seq ?_
        refine cutK (fun f => f 3 = .pointer (some ⟨b3, 0, none⟩) ∧ f 4 = .pointer (some ⟨b4, 0, none⟩) ∧ f 5 = .pointer (some ⟨b5, 0, none⟩) ∧ f 6 = .pointer (some ⟨b6, 0, none⟩) ∧ f 7 = .pointer (some ⟨b7, 0, none⟩) ∧ f 9 = .pointer (some ⟨b9, 0, none⟩) ∧ f 10 = .int .i64 (vlB b 0) ∧ f 11 = .int .i64 (v2B b s t) ∧ f 12 = .int .i64 (exN b (v2B b s t)) ∧ f 13 = .int .i64 (exD b (v2B b s t)) ∧ True) ⟨h3, h4, h5, h6, h7, h9, h10, h11, rfl, rfl, trivial⟩ ?_
        rintro f ⟨h3, h4, h5, h6, h7, h9, h10, h11, h12, h13, -⟩
        refine region ?_
        refine sv (fa85_1 h3) ?_
        refine sv (yLdB rfl Tryz.isAgg3 (hS.at _) rfl) ?_
        refine sv (fa96_0 h5) ?_
        refine sv (yLdB rfl Tryz.isAgg3 (hS.at _) rfl) ?_
        refine sv (yMove h13) ?_
        refine sv (yMul rfl rfl ⟨by omega, by omega⟩) ?_
        refine sv (yMove h12) ?_
        refine sv (ySub rfl rfl ⟨by omega, by omega⟩) ?_
        refine sv (yMul rfl rfl ⟨by omega, by omega⟩) ?_
        refine sv (yMove h13) ?_
        refine scall Tryz.call163 (.cons rfl (.cons rfl .nil)) (c_down4 (by omega) (by omega)) ?_
        rintro _ w ⟨rfl, hE⟩; replace hS := hS.step hE; clear hE
        refine sv (yMove h10) ?_
        refine sv (yMove h11) ?_
        refine sv (ySub rfl rfl ⟨by omega, by omega⟩) ?_
        refine sv (yMax rfl rfl) ?_
        refine sv (fa172_2 h9) ?_
        refine sst hS rfl rfl Tryz.sizeOf3 rfl rfl rfl rfl ?_; clear hS; intro w hS
        refine nil ?_
        show Code.wp _ _ _ _ _
        refine seq ?_
        refine region ?_
        replace hS : StX [] w0 w [blk b9 [.int .i64 t.river, .int .i64 (ovB b t), .int .i64 (lkB b s t), .int .i64 (0), .slice none 0 0] 172, blk b7 [.int .i64 0, .int .i64 0, .int .i64 0, .int .i64 0, .slice none 0 0] 172, blk b6 [.int .i64 0, .slice none 0 0] 87, blk b5 (btkC t) 96, blk b4 [.int .i64 s.volume, .slice af s.filled.length cf] 87, blk b3 [.slice ar b.rows.length cr, .int .i64 b.leak, .int .i64 b.crest, .int .i64 b.over, .slice ap b.pols.length cp] 85] := hS
        refine sv (yMove h11) ?_
        refine sv (fa172_2 h9) ?_
        refine sv (yLdB rfl Tryz.isAgg3 (hS.at _) rfl) ?_
        refine sv (Y.to (yAdd rfl rfl ⟨by show _ ≤ v2B b s t + lkB b s t; unfold v3B at h3b; omega, by show v2B b s t + lkB b s t ≤ _; unfold v3B at h3b; omega⟩) (show Value.int .i64 (v2B b s t + lkB b s t) = .int .i64 (v3B b s t) from rfl)) ?_
        refine sv (yAsg rfl) ?_
        refine nil ?_
        show Code.wp _ _ _ _ _
        refine seq ?_
        refine seq ?_
        refine cutK (fun f => f 3 = .pointer (some ⟨b3, 0, none⟩) ∧ f 4 = .pointer (some ⟨b4, 0, none⟩) ∧ f 5 = .pointer (some ⟨b5, 0, none⟩) ∧ f 6 = .pointer (some ⟨b6, 0, none⟩) ∧ f 7 = .pointer (some ⟨b7, 0, none⟩) ∧ f 9 = .pointer (some ⟨b9, 0, none⟩) ∧ f 10 = .int .i64 (vlB b 0) ∧ f 11 = .int .i64 (v3B b s t) ∧ True) ⟨h3, h4, h5, h6, h7, h9, h10, rfl, trivial⟩ ?_
        rintro f ⟨h3, h4, h5, h6, h7, h9, h10, h11, -⟩
        refine region ?_
        refine sv (yMove h11) ?_
        refine sv (yGtr rfl rfl) ?_
        refine nil ?_
        show Code.wp _ _ _ _ _
        refine cond rfl (fun c99 => ?_) (fun c99 => ?_)
        ·
          simp only [BS, ne_eq] at c99
          refine seq ?_
          refine region ?_
          refine sv (yBuild Tryz.zeroValue87 rfl pl87 .nil rfl) ?_
          refine sv (yBuild Tryz.zeroValue172 rfl pl172 .nil rfl) ?_
          refine sst hS h6 rfl Tryz.sizeOf87 rfl rfl rfl rfl ?_; clear hS; intro w hS
          refine sst hS h7 rfl Tryz.sizeOf172 rfl rfl rfl rfl ?_; clear hS; intro w hS
          refine sv (yAsg rfl) ?_
          refine nil ?_
          show Code.wp _ _ _ _ _
          refine wp_ret (thenR ?_)
          refine retQ (resV3 rfl (rc h6 Tryz.isAgg87 Tryz.sizeOf87 (hS.at _) rfl rfl) (rc h7 Tryz.isAgg172 Tryz.sizeOf172 (hS.at _) rfl rfl) (rt rfl)) ?_
          have hE := stepE_long (b := b) htb (show 2 < 5 by omega) (show (!decide (1000000000 < v3B b s t)) = false by rw [show decide (1000000000 < v3B b s t) = true from decide_eq_true c99]; rfl)
          exact .inl ⟨by rw [hE]; decide, by rw [hE]; rfl, hS.ext⟩
        ·
          simp only [BS, ne_eq] at c99
          have h3n : ¬ 1000000000 < v3B b s t := c99
          have h4v := v4_bd hok hso ht hv2.2 (by omega)
          have hoo := out_bd hok hso ht hv2.2
          have hgk := gK_all h1n h2n h3n
          have hE := stepE_fine htb hgk
          refine skip ?_
          show Code.wp _ _ _ _ _
          refine seq ?_
          refine cutK (fun f => f 3 = .pointer (some ⟨b3, 0, none⟩) ∧ f 4 = .pointer (some ⟨b4, 0, none⟩) ∧ f 5 = .pointer (some ⟨b5, 0, none⟩) ∧ f 6 = .pointer (some ⟨b6, 0, none⟩) ∧ f 7 = .pointer (some ⟨b7, 0, none⟩) ∧ f 9 = .pointer (some ⟨b9, 0, none⟩) ∧ f 10 = .int .i64 (vlB b 0) ∧ f 11 = .int .i64 (v3B b s t) ∧ True) ⟨h3, h4, h5, h6, h7, h9, h10, h11, trivial⟩ ?_
          rintro f ⟨h3, h4, h5, h6, h7, h9, h10, h11, -⟩
          refine region ?_
          refine sv (fa96_2 h5) ?_
          refine sv (yLdB rfl Tryz.isAgg3 (hS.at _) rfl) ?_
          refine sv (yMove h11) ?_
          refine sv (yMove h10) ?_
          refine sv (Y.to (ySub rfl rfl ⟨by omega, by omega⟩) rfl) ?_
          refine sv (yMin rfl rfl) ?_
          refine sv (fa172_3 h9) ?_
          refine sst hS rfl rfl Tryz.sizeOf3 rfl rfl rfl rfl ?_; clear hS; intro w hS
          refine nil ?_
          show Code.wp _ _ _ _ _
          refine seq ?_
          refine region ?_
          replace hS : StX [] w0 w [blk b9 [.int .i64 t.river, .int .i64 (ovB b t), .int .i64 (lkB b s t), .int .i64 (outV b s t), .slice none 0 0] 172, blk b7 [.int .i64 0, .int .i64 0, .int .i64 0, .int .i64 0, .slice none 0 0] 172, blk b6 [.int .i64 0, .slice none 0 0] 87, blk b5 (btkC t) 96, blk b4 [.int .i64 s.volume, .slice af s.filled.length cf] 87, blk b3 [.slice ar b.rows.length cr, .int .i64 b.leak, .int .i64 b.crest, .int .i64 b.over, .slice ap b.pols.length cp] 85] := hS
          refine sv (yMove h11) ?_
          refine sv (fa172_3 h9) ?_
          refine sv (yLdB rfl Tryz.isAgg3 (hS.at _) rfl) ?_
          refine sv (Y.to (ySub rfl rfl ⟨by unfold v4B at h4v; omega, by unfold v4B at h4v; omega⟩) (show Value.int .i64 (v3B b s t - outV b s t) = .int .i64 (v4B b s t) from rfl)) ?_
          refine sv (yAsg rfl) ?_
          refine nil ?_
          show Code.wp _ _ _ _ _
          refine seq ?_
          refine cutK (fun f => f 3 = .pointer (some ⟨b3, 0, none⟩) ∧ f 4 = .pointer (some ⟨b4, 0, none⟩) ∧ f 5 = .pointer (some ⟨b5, 0, none⟩) ∧ f 6 = .pointer (some ⟨b6, 0, none⟩) ∧ f 7 = .pointer (some ⟨b7, 0, none⟩) ∧ f 9 = .pointer (some ⟨b9, 0, none⟩) ∧ f 11 = .int .i64 (v4B b s t) ∧ True) ⟨h3, h4, h5, h6, h7, h9, rfl, trivial⟩ ?_
          rintro f ⟨h3, h4, h5, h6, h7, h9, h11, -⟩
          refine region ?_
          refine sv (yAsg rfl) ?_
          refine nil ?_
          show Code.wp _ _ _ _ _
          refine seq ?_
          refine seq ?_
          refine region ?_
          refine sv (yAsg rfl) ?_
          refine nil ?_
          show Code.wp _ _ _ _ _
          refine block ?_
          refine loop (fun f w zz => ∃ (k : Nat) (fv tv : Value), f 3 = .pointer (some ⟨b3, 0, none⟩) ∧ f 4 = .pointer (some ⟨b4, 0, none⟩) ∧ f 6 = .pointer (some ⟨b6, 0, none⟩) ∧ f 7 = .pointer (some ⟨b7, 0, none⟩) ∧ f 9 = .pointer (some ⟨b9, 0, none⟩) ∧ f 11 = .int .i64 (volP b s.filled (v4B b s t) k) ∧ f 14 = fv ∧ f 15 = .int .i64 (k : Int) ∧ StX [] w0 w [rowI (fv) 3 1 k ((filP b s.filled (v4B b s t) k).flatMap Bx.encI), rowI (tv) 3 1 k ((tksP b s.filled (v4B b s t) k).flatMap Bx.encI), blk b9 [.int .i64 t.river, .int .i64 (ovB b t), .int .i64 (lkB b s t), .int .i64 (outV b s t), tv] 172, blk b7 [.int .i64 0, .int .i64 0, .int .i64 0, .int .i64 0, .slice none 0 0] 172, blk b6 [.int .i64 0, .slice none 0 0] 87, blk b5 (btkC t) 96, blk b4 [.int .i64 s.volume, .slice af s.filled.length cf] 87, blk b3 [.slice ar b.rows.length cr, .int .i64 b.leak, .int .i64 b.crest, .int .i64 b.over, .slice ap b.pols.length cp] 85] ∧ (k ≤ b.pols.length) ∧ zz = b.pols.length - k) _ ⟨_, rfl, 0, _, _, h3, h4, h6, h7, h9, h11, rfl, rfl, ((hS.nilrow 3 1).nilrow 3 1), (Nat.zero_le _), rfl⟩ ?_
          clear hS
          rintro f w _ ⟨k, fv, tv, h3, h4, h6, h7, h9, h11, h14, h15, hS, hk, rfl⟩
          refine seq ?_
          refine seq ?_
          refine region ?_
          refine sv (yMove h15) ?_
          refine sv (fa85_4 h3) ?_
          refine sv (yLdB rfl Tryz.isAgg83 (hS.at _) rfl) ?_
          refine sv (yLen rfl Tryz.underlying83) ?_
          refine sv (yLss rfl rfl) ?_
          refine nil ?_
          show Code.wp _ _ _ _ _
          refine cond rfl (fun c117 => ?_) (fun c117 => ?_)
          ·
            simp only [BS, ne_eq] at c117
            have hkl : k < b.pols.length := by omega
            obtain ⟨bp, op, csp, hap, hlp, hcsp, hRp, -⟩ := sl_at hsp (plB_get (b := b) hkl)
            obtain ⟨rfl, -⟩ := hRp
            obtain ⟨p1, p2, p3, p4⟩ := plB_ok hok hkl
            have hl0 := hok.lv 0 (by omega)
            have hvk := volP_bd hok hso.fil h4v k (by omega)
            have hfk := hso.fil k hkl
            have htk := tkP_bd hok hso.fil h4v hkl
            obtain ⟨m1, m2, m3⟩ := take_m (x := plB b k) hok hvk.1 (by omega) ⟨by omega, by omega⟩ p2
            have hd1 := (exD_bd hok (volP b s.filled (v4B b s t) k)).1
            obtain ⟨bx, ox, cx, hax, hlx, hcx, hRx, -⟩ := sl_at hsf (flB_get (l := s.filled) (show k < s.filled.length by omega))
            obtain ⟨rfl, -⟩ := hRx
            refine skip ?_
            show Code.wp _ _ _ _ _
            refine seq ?_
            refine block ?_
            refine seq ?_
            refine region ?_
            refine sv (fa85_4 h3) ?_
            refine sv (yLdB rfl Tryz.isAgg83 (hS.at _) rfl) ?_
            refine sv (yMove h15) ?_
            refine sv (yIxa rfl hap rfl Tryz.runUnderlying83 Tryz.sizeOf204 (by omega) (by omega)) ?_
            refine sv (yLdA rfl Tryz.isAgg204 Tryz.sizeOf204 (hcsp.ext hS.ext) rfl) ?_
            refine salloc hS Tryz.zeroValue204 rfl ?_; clear hS; intro b16 w hS
            refine sst hS rfl rfl Tryz.sizeOf204 rfl rfl rfl rfl ?_; clear hS; intro w hS
            refine nil ?_
            show Code.wp _ _ _ _ _
            refine seq ?_
            refine region ?_
            refine sv (yLdBA h3 Tryz.isAgg85 Tryz.sizeOf85 (hS.at _) rfl rfl) ?_
            refine sv (yMove h11) ?_
            refine scall Tryz.call162 (.cons rfl (.cons rfl .nil)) (c_exact4 (v := volP b s.filled (v4B b s t) k) (h.ext hS.ext) hok ⟨hvk.1, by omega⟩) ?_
            rintro _ w ⟨rfl, hE⟩; replace hS := hS.step hE; clear hE
            refine sv (yMove rfl) ?_
            refine sv (yExt rfl rfl) ?_
            refine sv (yExt rfl rfl) ?_
            refine sv (yAsg rfl) ?_
            refine sv (yAsg rfl) ?_
            refine nil ?_
            show Code.wp _ _ _ _ _
            refine seq ?_
            refine region ?_
            refine sv (yAsg rfl) ?_
            refine nil ?_
            show Code.wp _ _ _ _ _
            refine seqJ (n := 180) (fun f w => ∃ (nn : Int), f 3 = .pointer (some ⟨b3, 0, none⟩) ∧ f 4 = .pointer (some ⟨b4, 0, none⟩) ∧ f 6 = .pointer (some ⟨b6, 0, none⟩) ∧ f 7 = .pointer (some ⟨b7, 0, none⟩) ∧ f 9 = .pointer (some ⟨b9, 0, none⟩) ∧ f 11 = .int .i64 (volP b s.filled (v4B b s t) k) ∧ f 14 = fv ∧ f 15 = .int .i64 (k : Int) ∧ f 19 = .int .i64 nn ∧ StX [] w0 w [rowI (fv) 3 1 k ((filP b s.filled (v4B b s t) k).flatMap Bx.encI), rowI (tv) 3 1 k ((tksP b s.filled (v4B b s t) k).flatMap Bx.encI), blk b9 [.int .i64 t.river, .int .i64 (ovB b t), .int .i64 (lkB b s t), .int .i64 (outV b s t), tv] 172, blk b7 [.int .i64 0, .int .i64 0, .int .i64 0, .int .i64 0, .slice none 0 0] 172, blk b6 [.int .i64 0, .slice none 0 0] 87, blk b5 (btkC t) 96, blk b4 [.int .i64 s.volume, .slice af s.filled.length cf] 87, blk b3 [.slice ar b.rows.length cr, .int .i64 b.leak, .int .i64 b.crest, .int .i64 b.over, .slice ap b.pols.length cp] 85] ∧ (nn = tkP b s.filled (v4B b s t) k) ∧ True) ?_ ?_
            ·
              refine seq ?_
              refine region ?_
              refine sv (yMove rfl) ?_
              refine sv (fa204_1 rfl) ?_
              refine sv (yLdB rfl Tryz.isAgg3 (hS.at _) rfl) ?_
              refine sv (yMove rfl) ?_
              refine sv (yMul rfl rfl ⟨by omega, by omega⟩) ?_
              refine sv (yGtr rfl rfl) ?_
              refine nil ?_
              show Code.wp _ _ _ _ _
              refine cond rfl (fun c136 => ?_) (fun c136 => ?_)
              ·
                simp only [BS, ne_eq] at c136
                have hnn0 := Int.mul_nonneg p2.1 (show 0 ≤ exN b (volP b s.filled (v4B b s t) k) - (plB b k).sill * exD b (volP b s.filled (v4B b s t) k) by omega)
                refine region_draw mixed (by kernel_rfl) hS ?_
                refine qv (fun w hS => (fa204_2 rfl)) ?_
                refine qv (fun w hS => (yLdB rfl Tryz.isAgg3 (hS.at _) rfl)) ?_
                refine qv (fun w hS => (yMove rfl)) ?_
                refine qv (fun w hS => (fa204_1 rfl)) ?_
                refine qv (fun w hS => (yLdB rfl Tryz.isAgg3 (hS.at _) rfl)) ?_
                refine qv (fun w hS => (yMove rfl)) ?_
                refine qv (fun w hS => (yMul rfl rfl ⟨by omega, by omega⟩)) ?_
                refine qv (fun w hS => (ySub rfl rfl ⟨by omega, by omega⟩)) ?_
                refine qv (fun w hS => (yMul rfl rfl ⟨by omega, by omega⟩)) ?_
                refine qv (fun w hS => (yMove rfl)) ?_
                refine qv (fun w hS => (yQuoP rfl rfl ⟨by omega, by omega⟩ (by omega))) ?_
                refine qv (fun w hS => (fa204_3 rfl)) ?_
                refine qv (fun w hS => (yLdB rfl Tryz.isAgg3 (hS.at _) rfl)) ?_
                refine qv (fun w hS => (fa87_1 h4)) ?_
                refine qv (fun w hS => (yLdB rfl Tryz.isAgg34 (hS.at _) rfl)) ?_
                refine qv (fun w hS => (yMove h15)) ?_
                refine qv (fun w hS => (yIxa rfl hax rfl Tryz.runUnderlying34 Tryz.sizeOf3 (by omega) (by omega))) ?_
                refine qv (fun w hS => (yLd rfl Tryz.isAgg3 ((hcx.ext hS.ext).one))) ?_
                refine qv (fun w hS => (ySub rfl rfl ⟨by omega, by omega⟩)) ?_
                refine qv (fun w hS => (yMin rfl rfl)) ?_
                refine qv (fun w hS => (yAsg rfl)) ?_
                clear hS; refine qnil (fun w hS => ?_)
                exact ⟨_, rfl, _, h3, h4, h6, h7, h9, h11, h14, h15, rfl, (hS.sub (.cons _ (List.Sublist.refl _))), (take_some (by omega)), trivial⟩
              ·
                simp only [BS, ne_eq] at c136
                refine skip ?_
                exact ⟨_, rfl, 0, h3, h4, h6, h7, h9, h11, h14, h15, rfl, (hS.sub (.cons _ (List.Sublist.refl _))), (take_none (by omega)), trivial⟩
            ·
              clear hS; rintro f w ⟨nn, h3, h4, h6, h7, h9, h11, h14, h15, h19, hS, hnn, -⟩
              refine seq ?_
              refine region ?_
              subst hnn
              refine sv (yMove h11) ?_
              refine sv (yMove h19) ?_
              refine sv (ySub rfl rfl ⟨by omega, by omega⟩) ?_
              refine sv (yAsg rfl) ?_
              refine nil ?_
              show Code.wp _ _ _ _ _
              refine seq ?_
              refine region ?_
              refine sv (fa172_4 h9) ?_
              refine sv (yLdB rfl Tryz.isAgg34 (hS.at _) rfl) ?_
              refine sv (yMove h19) ?_
              refine sbslice hS Tryz.underlying34 Tryz.sizeOf3 rfl Tryz.zeroValue3 rfl (.cons rfl rfl .nil) rfl ?_; clear hS; intro b163 w hS
              refine sapp (bytes := 8) (size := 1) (v := tv) (m := 1) hS rfl rfl Tryz.underlying34 ti3 rfl rfl rfl rfl (by decide) (blk_cells (hS.at _)) rfl rfl (by omega) (by omega) ?_; clear hS; intro v164 w hS
              refine sv (fa172_4 h9) ?_
              obtain ⟨a164, c164, rfl⟩ := row_shape (hS.row v164)
              refine sst hS rfl rfl Tryz.sizeOf34 rfl rfl rfl rfl ?_; clear hS; intro w hS
              refine nil ?_
              show Code.wp _ _ _ _ _
              refine region ?_
              refine sv (yMove h14) ?_
              refine sv (fa87_1 h4) ?_
              refine sv (yLdB rfl Tryz.isAgg34 (hS.at _) rfl) ?_
              refine sv (yMove h15) ?_
              refine sv (yIxa rfl hax rfl Tryz.runUnderlying34 Tryz.sizeOf3 (by omega) (by omega)) ?_
              refine sv (yLd rfl Tryz.isAgg3 ((hcx.ext hS.ext).one)) ?_
              refine sv (yMove h19) ?_
              refine sv (yAdd rfl rfl ⟨by omega, by omega⟩) ?_
              refine sbslice hS Tryz.underlying34 Tryz.sizeOf3 rfl Tryz.zeroValue3 rfl (.cons rfl rfl .nil) rfl ?_; clear hS; intro b174 w hS
              refine sapp (bytes := 8) (size := 1) (v := fv) (m := 1) hS rfl rfl Tryz.underlying34 ti3 rfl rfl rfl rfl (by decide) (blk_cells (hS.at _)) rfl rfl (by omega) (by omega) ?_; clear hS; intro v175 w hS
              refine sv (yAsg rfl) ?_
              refine nil ?_
              show Code.wp _ _ _ _ _
              refine region ?_
              refine sv (yMove h15) ?_
              refine sv (yAdd rfl rfl ⟨by omega, by omega⟩) ?_
              refine sv (yAsg rfl) ?_
              refine nil ?_
              exact ⟨_, _, rfl, ⟨k + 1, _, _, h3, h4, h6, h7, h9, rfl, rfl, rfl, (by rw [filP_succ, tksP_succ, List.flatMap_append, List.flatMap_append]; exact hS.sub (.cons _ (.cons _ (List.Sublist.refl _)))), (by omega), rfl⟩, by omega⟩
          ·
            simp only [BS, ne_eq] at c117
            obtain rfl : k = b.pols.length := by omega
            obtain ⟨afv, cfv, rfl⟩ := row_shape (hS.row fv)
            obtain ⟨atv, ctv, rfl⟩ := row_shape (hS.row tv)
            refine exit ?_
            show Code.wp _ _ _ _ _
            refine seq ?_
            refine region_mix (fun w => w.heap[b9]? = some (.cells ([.int .i64 t.river, .int .i64 (ovB b t), .int .i64 (lkB b s t), .int .i64 (outV b s t), .slice atv b.pols.length ctv] : List Value).toArray 172 (0, 0))) 7 mixed hS ?_
            clear hS; intro w hS
            refine f_step 0 (by kernel_rfl) rfl (fun c a a' w h => by obtain ⟨_, v, hv, _⟩ := h; cases hv) (hS.at b9) (fun w hS => (yMove h11)) ?_
            refine f_step 1 (by kernel_rfl) rfl (fun c a a' w h => by obtain ⟨_, v, hv, _⟩ := h; cases hv) (hS.at b9) (fun w hS => (yMove h14)) ?_
            refine f_step 2 (by kernel_rfl) rfl (fun c a a' w h => by obtain ⟨_, v, hv, _⟩ := h; cases hv) (hS.at b9) (fun w hS => (yBuild Tryz.zeroValue87 rfl pl87 (.cons rfl rfl (.cons rfl rfl .nil)) rfl)) ?_
            refine f_step 3 (by kernel_rfl) rfl (fun c a a' w h => by obtain ⟨_, v, hv, _⟩ := h; cases hv) (hS.at b9) (fun w hS => (yLdBA h9 Tryz.isAgg172 Tryz.sizeOf172 hS rfl rfl)) ?_
            show wpA _ _ _ _ _ _ _ _ _ _
            refine a_step (i := 4) (is := []) (by kernel_rfl) ⟨?_, trivial⟩
            refine ⟨_, rfl, ?_⟩
            refine sst hS h6 rfl Tryz.sizeOf87 rfl rfl rfl rfl ?_; clear hS; intro w hS
            refine nil ?_
            refine ⟨fun _ => (hS.at b9), ?_⟩
            show wpA _ _ _ _ _ _ _ _ _ _
            show wpA _ _ _ _ _ _ _ _ _ _
            refine a_step (i := 5) (is := []) (by kernel_rfl) ⟨?_, trivial⟩
            refine ⟨_, rfl, ?_⟩
            refine sst hS h7 rfl Tryz.sizeOf172 rfl rfl rfl rfl ?_; clear hS; intro w hS
            refine nil ?_
            refine ⟨fun _ => (hS.at b9), ?_⟩
            show wpA _ _ _ _ _ _ _ _ _ _
            refine f_step 6 (by kernel_rfl) rfl (fun c a a' w h => by obtain ⟨_, v, hv, _⟩ := h; cases hv) (hS.at b9) (fun w hS => (yAsg rfl)) ?_
            refine a_end (by kernel_rfl) ?_
            show Code.wp _ _ _ _ _
            refine wp_ret ?_
            refine retQ (resV3 rfl (rc h6 Tryz.isAgg87 Tryz.sizeOf87 (hS.at _) rfl rfl) (rc h7 Tryz.isAgg172 Tryz.sizeOf172 (hS.at _) rfl rfl) (rt rfl)) ?_
            exact .inr ⟨hE, _, _, _, _, _, _, packI [rowI (.slice atv b.pols.length ctv) 3 1 b.pols.length ((tksP b s.filled (v4B b s t) b.pols.length).flatMap Bx.encI), rowI (.slice afv b.pols.length cfv) 3 1 b.pols.length ((filP b s.filled (v4B b s t) b.pols.length).flatMap Bx.encI)], rfl, fun w hw => ⟨step_st2 hok hso ht hgk (hw _ (List.mem_cons_of_mem _ (List.mem_cons_self ..))), step_fl2 hok hso ht hgk (hw _ (List.mem_cons_self ..))⟩, StX.pack (M := [rowI (.slice atv b.pols.length ctv) 3 1 b.pols.length ((tksP b s.filled (v4B b s t) b.pols.length).flatMap Bx.encI), rowI (.slice afv b.pols.length cfv) 3 1 b.pols.length ((filP b s.filled (v4B b s t) b.pols.length).flatMap Bx.encI)]) (L := []) ((hS.perm (.swap _ _ _)).sub (.cons_cons _ (.cons_cons _ (List.nil_sublist _))))⟩
end Go.Proofs.YtmoilbakmlekbaaGreatDoor

/- part A47 -/
namespace Bx
open Go Go.RowKit
abbrev Css := List (List Value)
def flsL (b : Bas) (s : BSt) (l : List BTk) (k : Nat) : List BFl := (List.range k).map (flN b s l)
theorem flsL_succ (b : Bas) (s : BSt) (l : List BTk) (k : Nat) : flsL b s l (k + 1) = flsL b s l k ++ [flN b s l k] := by unfold flsL; rw [List.range_succ, List.map_append]; rfl
theorem flsL_len (b : Bas) (s : BSt) (l : List BTk) (k : Nat) : (flsL b s l k).length = k := by simp [flsL]
theorem flsL_get {b : Bas} {s : BSt} {l : List BTk} {k i : Nat} (h : i < k) : (flsL b s l k)[i]? = some (flN b s l i) := by simp [flsL, h]
theorem flN_taken (b : Bas) (s : BSt) (l : List BTk) (k : Nat) : (flN b s l k).taken.length = b.pols.length := tksP_len ..
def runE0 (b : Bas) (s : BSt) (l : List BTk) : Int := if stB b s ≠ 0 then stB b s else if (300 : Int) < l.length then 3 else 0
theorem run_err {b : Bas} {s : BSt} {l : List BTk} (h : runE0 b s l ≠ 0) : runE b s l = runE0 b s l := by
  unfold runE0 at h ⊢; unfold runE
  split
  · rfl
  · next h1 =>
    split
    · rfl
    · next h2 => rw [if_neg h1, if_neg h2] at h; exact absurd rfl h
theorem run_st {b : Bas} {s : BSt} {l : List BTk} (h : runE0 b s l = 0) : stB b s = 0 ∧ l.length ≤ 300 ∧ runE b s l = (firstN (errN b s l) l.length 0).2 := by
  unfold runE0 at h; unfold runE
  split at h
  · next h1 => exact absurd h h1
  · next h1 =>
    split at h
    · simp at h
    · next h2 => rw [if_neg h1, if_neg h2]; exact ⟨Decidable.not_not.1 h1, by omega, rfl⟩
theorem run_at {b : Bas} {s : BSt} {l : List BTk} {k : Nat} (h : runE0 b s l = 0) (hk : k < l.length) (hz : ∀ i, i < k → errN b s l i = 0) (hn : errN b s l k ≠ 0) : runE b s l = errN b s l k := by
  rw [(run_st h).2.2]
  have := firstN_at (f := errN b s l) (k := 0) (j := k) (m := l.length) (fun i _ hi => hz i (by omega)) hk (by rw [Nat.zero_add]; exact hn)
  rw [this, Nat.zero_add]
theorem run_all {b : Bas} {s : BSt} {l : List BTk} (h : runE0 b s l = 0) (hz : ∀ i, i < l.length → errN b s l i = 0) : runE b s l = 0 := by
  rw [(run_st h).2.2, firstN_none fun i _ hi => hz i (by omega)]
theorem lowF_y {p : Nat → Bool} {n m : Nat} (h : p (n - 1 - m) = true) : lowF p n (m + 1) = ((n - 1 - m : Nat) : Int) := if_pos h
theorem lowF_n {p : Nat → Bool} {n m : Nat} (h : ¬ p (n - 1 - m) = true) : lowF p n (m + 1) = lowF p n m := if_neg h
def fromE0 (b : Bas) (s : BSt) (frm : Int) (hs : List (List BTk)) : Int := if stB b s ≠ 0 then stB b s else if outB frm 0 200000 = true then 7 else if outB hs.length 1 8 = true then 3 else 0
theorem fromE0_ne {b : Bas} {s : BSt} {frm : Int} {hs : List (List BTk)} (h : fromE0 b s frm hs ≠ 0) : fromE b s frm hs = fromE0 b s frm hs := by
  unfold fromE0 at h ⊢; unfold fromE
  split
  · rfl
  · next h1 =>
    split
    · rfl
    · next h2 =>
      split
      · rfl
      · next h3 => rw [if_neg h1, if_neg h2, if_neg h3] at h; exact absurd rfl h
theorem fromE0_eq {b : Bas} {s : BSt} {frm : Int} {hs : List (List BTk)} (h : fromE0 b s frm hs = 0) : stB b s = 0 ∧ outB frm 0 200000 = false ∧ outB hs.length 1 8 = false := by
  unfold fromE0 at h
  split at h
  · next h1 => exact absurd h h1
  · next h1 =>
    split at h
    · simp at h
    · next h2 =>
      split at h
      · simp at h
      · next h3 => exact ⟨Decidable.not_not.1 h1, by simpa using h2, by simpa using h3⟩
/-- The first histories' floods are moved on, the rest not yet. -/
def FZ (b : Bas) (s : BSt) (frm : Int) (hs : List (List BTk)) (i : Nat) : List (List Int) := fromL b s frm (hs.take i) ++ (hs.drop i).map (floodsF b s)
section
variable {b : Bas} {s : BSt} {frm : Int} {hs : List (List BTk)} {i : Nat} {h : List BTk}
theorem FZ_0 : FZ b s frm hs 0 = hs.map (floodsF b s) := by simp [FZ, fromL]
theorem FZ_all : FZ b s frm hs hs.length = fromL b s frm hs := by simp [FZ]
theorem FZ_at (hx : hs[i]? = some h) : (FZ b s frm hs i)[i]? = some (floodsF b s h) := by
  have hl := (List.getElem?_eq_some_iff.1 hx).1
  unfold FZ
  rw [List.getElem?_append_right (by rw [fromL_len, List.length_take]; omega), fromL_len, List.length_take, Nat.min_eq_left (Nat.le_of_lt hl), Nat.sub_self]
  simp [hx]
theorem FZ_next (hx : hs[i]? = some h) : (FZ b s frm hs (i + 1))[i]? = some ((floodsF b s h).map (addF frm)) := by
  have hl := (List.getElem?_eq_some_iff.1 hx).1
  unfold FZ
  rw [fromL_snoc hx, List.append_assoc, List.getElem?_append_right (by rw [fromL_len, List.length_take]; omega), fromL_len, List.length_take, Nat.min_eq_left (Nat.le_of_lt hl), Nat.sub_self]
  simp
theorem FZ_take (hx : hs[i]? = some h) : (FZ b s frm hs (i + 1)).take i = (FZ b s frm hs i).take i := by
  have hl := (List.getElem?_eq_some_iff.1 hx).1
  have hf : (fromL b s frm (hs.take i)).length = i := by rw [fromL_len, List.length_take]; omega
  unfold FZ
  rw [fromL_snoc hx, List.append_assoc, List.take_append_of_le_length (by omega), List.take_append_of_le_length (by omega)]
theorem FZ_drop (hx : hs[i]? = some h) : (FZ b s frm hs (i + 1)).drop (i + 1) = (FZ b s frm hs i).drop (i + 1) := by
  have hl := (List.getElem?_eq_some_iff.1 hx).1
  have hf : (fromL b s frm (hs.take i)).length = i := by rw [fromL_len, List.length_take]; omega
  have hf2 : (fromL b s frm (hs.take (i + 1))).length = i + 1 := by rw [fromL_len, List.length_take]; omega
  have e1 : (FZ b s frm hs (i + 1)).drop (i + 1) = (hs.drop (i + 1)).map (floodsF b s) := by
    unfold FZ
    exact List.drop_left' hf2
  have e2 : (FZ b s frm hs i).drop (i + 1) = ((hs.drop i).map (floodsF b s)).drop 1 := by
    unfold FZ
    have hx : i + 1 = (fromL b s frm (hs.take i)).length + 1 := by rw [hf]
    rw [hx, List.drop_append, List.drop_of_length_le (by omega), Nat.add_sub_cancel_left, List.nil_append]
  rw [e1, e2, ← List.map_drop, List.drop_drop]
end
end Bx
namespace Bx
section
variable {b : Bas} {s : BSt} {frm : Int} {hs : List (List BTk)}
theorem e4_y (h : (decide (stB b s = 0) && !inB frm 0 200000) = true) : (7 : Int) = if stB b s ≠ 0 then stB b s else if outB frm 0 200000 = true then 7 else 0 := by
  simp only [Bool.and_eq_true, decide_eq_true_eq, inB_not] at h
  rw [if_neg (fun k => k h.1), if_pos h.2]
theorem e4_n (h : (decide (stB b s = 0) && !inB frm 0 200000) = false) : stB b s = if stB b s ≠ 0 then stB b s else if outB frm 0 200000 = true then 7 else 0 := by
  rw [inB_not] at h
  split
  · rfl
  · next h1 =>
    have h1 : stB b s = 0 := Decidable.not_not.1 h1
    rw [decide_eq_true h1, Bool.true_and] at h
    rw [if_neg (by rw [h]; decide)]; exact h1
theorem e6_y {e : Int} (he : e = if stB b s ≠ 0 then stB b s else if outB frm 0 200000 = true then 7 else 0) (h : (decide (e = 0) && !inB (hs.length : Int) 1 8) = true) : (3 : Int) = fromE0 b s frm hs := by
  simp only [Bool.and_eq_true, decide_eq_true_eq, inB_not] at h
  obtain ⟨h1, h2⟩ := h
  rw [h1] at he
  unfold fromE0
  split
  · next k => rw [if_pos k] at he; exact absurd he.symm k
  · next k =>
    rw [if_neg k] at he
    split
    · next k2 => rw [if_pos k2] at he; simp at he
    · first | rfl | rw [if_pos h2]
theorem e6_n {e : Int} (he : e = if stB b s ≠ 0 then stB b s else if outB frm 0 200000 = true then 7 else 0) (h : (decide (e = 0) && !inB (hs.length : Int) 1 8) = false) : e = fromE0 b s frm hs := by
  rw [inB_not] at h
  unfold fromE0
  split
  · next k => rw [if_pos k] at he; exact he
  · next k =>
    rw [if_neg k] at he
    split
    · next k2 => rw [if_pos k2] at he; exact he
    · next k2 =>
      rw [if_neg k2] at he
      subst he
      rw [decide_eq_true rfl, Bool.true_and] at h
      rw [if_neg (by rw [h]; decide)]
end
end Bx

/- part Aw63 -/
namespace Go.Proofs.YtmoilbakmlekbaaGreatDoor
open Go Bx
theorem c_step4S {b : Bas} {s : BSt} {t : BTk} {cs qs : List Value} {w0 : World} (h : RBas w0 cs b) (hsq : RBst w0 qs s) (hok : BasOk b) (hso : BstOk b s) (hI : I64 t.outer ∧ I64 t.river ∧ I64 t.out) : CE Tryz.prog 143 #[.agg cs.toArray, .agg qs.toArray, .agg (btkC t).toArray] w0 fun u w' => ∃ V f1 f2 f3 f4 a1 n1 c1 a2 n2 c2 it, u = .tuple #[.agg [.int .i64 V, .slice a1 n1 c1].toArray, .agg [.int .i64 f1, .int .i64 f2, .int .i64 f3, .int .i64 f4, .slice a2 n2 c2].toArray, .int .i64 (stepE b s t)] ∧ (stepE b s t = 0 → V = (stepS b s t).volume ∧ ∀ w, it.ok w → RBst w [.int .i64 V, .slice a1 n1 c1] (stepS b s t) ∧ RBfl w [.int .i64 f1, .int .i64 f2, .int .i64 f3, .int .i64 f4, .slice a2 n2 c2] (stepF b s t)) ∧ St w0 w' [it] :=
  CE.mono (c_step4 h hsq hok hso hI) fun u w' hh => by
    rcases hh with ⟨hne, rfl, hE⟩ | ⟨h0, a1, n1, c1, a2, n2, c2, it, rfl, hit, hS⟩
    · exact ⟨0, 0, 0, 0, 0, none, 0, 0, none, 0, 0, packI [], rfl, fun k => absurd k hne, StX.pack (M := []) (L := []) (StX.step (St.start w0) hE)⟩
    · exact ⟨_, _, _, _, _, _, _, _, _, _, _, it, by rw [h0]; rfl, fun _ => ⟨rfl, hit⟩, hS⟩
set_option maxHeartbeats 4000000 in
/-- barrage/barrageref04.Run -/
theorem c_Run4 {b : Bas} {s : BSt} {l : List BTk} {cs qs : List Value} {lv : Value} {w0 : World} (h : RBas w0 cs b) (hsq : RBst w0 qs s) (hl : Sl w0 3 RBtk lv l) : CE Tryz.prog 129 #[.agg cs.toArray, .agg qs.toArray, lv] w0 (fun u w' => (runE b s l ≠ 0 ∧ u = .tuple #[.slice none 0 0, .slice none 0 0, .int .i64 (runE b s l)] ∧ Ext w0 w') ∨ (runE b s l = 0 ∧ ∃ v1 v2 it, u = .tuple #[v1, v2, .int .i64 0] ∧ (∀ w, it.ok w → Sl w 5 RBfl v2 (flsL b s l l.length)) ∧ StX [] w0 w' [it])) := by
  obtain ⟨rv, pv, rfl, hsr, hlk, hcr, hov, hsp⟩ := id h
  obtain ⟨ar, cr, rfl, hrcap, hrmx, hrel⟩ := id hsr
  obtain ⟨ap, cp, rfl, hpcap, hpmx, hpel⟩ := id hsp
  obtain ⟨fv, rfl, hsv, hsf, hsm⟩ := id hsq
  obtain ⟨af, cf, rfl, hfcap, hfmx, hfel⟩ := id hsf
  obtain ⟨al, cl, rfl, hlcap, hlmx, hlel⟩ := id hl
  refine enter Tryz.func129 rfl Tryz.ntmps129 rfl ?_
  have hS := St.start w0
  refine seq ?_
  refine region ?_
  refine sbox hS rfl rfl ?_; clear hS; intro b3 w hS
  refine sbox hS rfl rfl ?_; clear hS; intro b4 w hS
  refine sv (yAsg rfl) ?_
  refine sv (yAsg rfl) ?_
  refine sv (yAsg rfl) ?_
  refine nil ?_
  show Code.wp _ _ _ _ _
  refine seq ?_
  refine region ?_
  refine sv (yLdBA rfl Tryz.isAgg85 Tryz.sizeOf85 (hS.at _) rfl rfl) ?_
  refine sv (yLdBA rfl Tryz.isAgg87 Tryz.sizeOf87 (hS.at _) rfl rfl) ?_
  refine scall Tryz.call97 (.cons rfl (.cons rfl .nil)) (c_CheckState4 (h.ext hS.ext) (hsq.ext hS.ext)) ?_
  rintro _ w ⟨rfl, hE⟩; replace hS := hS.step hE; clear hE
  refine sv (yAsg rfl) ?_
  refine nil ?_
  show Code.wp _ _ _ _ _
  refine seqJ (n := 60) (fun f w => ∃ (e : Int), f 2 = .slice al l.length cl ∧ f 3 = .pointer (some ⟨b3, 0, none⟩) ∧ f 4 = .pointer (some ⟨b4, 0, none⟩) ∧ f 9 = .int .i64 e ∧ StX [] w0 w [blk b4 [.int .i64 s.volume, .slice af s.filled.length cf] 87, blk b3 [.slice ar b.rows.length cr, .int .i64 b.leak, .int .i64 b.crest, .int .i64 b.over, .slice ap b.pols.length cp] 85] ∧ (e = runE0 b s l) ∧ True) ?_ ?_
  ·
    refine seq ?_
    refine region ?_
    refine sv (yMove rfl) ?_
    refine sv (yEql rfl rfl) ?_
    refine sv (yMove rfl) ?_
    refine sg rfl rfl rfl (fun g => (yMove rfl)) (fun v22 g22 => ?_)
    refine sg rfl rfl rfl (fun g => (yLen (g22.1 g) Tryz.underlying94)) (fun v23 g23 => ?_)
    refine sg rfl rfl rfl (fun g => (yGtr (g23.1 g) rfl)) (fun v24 g24 => ?_)
    refine sv (yAnd rfl (fun hB => (g24.1 hB)) rfl) ?_
    refine nil ?_
    show Code.wp _ _ _ _ _
    refine cond rfl (fun c25 => ?_) (fun c25 => ?_)
    ·
      simp only [BS, ne_eq] at c25
      refine region ?_
      refine sv (yAsg rfl) ?_
      refine nil ?_
      exact ⟨_, rfl, _, rfl, rfl, rfl, rfl, hS, (by unfold runE0; rw [if_neg (by omega), if_pos (by omega)]), trivial⟩
    ·
      simp only [BS, ne_eq] at c25
      refine skip ?_
      exact ⟨_, rfl, _, rfl, rfl, rfl, rfl, hS, (by unfold runE0; split; rfl; rw [if_neg (by omega)]; omega), trivial⟩
  ·
    clear hS; rintro f w ⟨e, h2, h3, h4, h9, hS, he1, -⟩
    refine seq ?_
    refine seq ?_
    refine region ?_
    refine sv (yMove h9) ?_
    refine sv (yNeq rfl rfl) ?_
    refine nil ?_
    show Code.wp _ _ _ _ _
    refine cond rfl (fun c27 => ?_) (fun c27 => ?_)
    ·
      simp only [BS, ne_eq] at c27
      refine seq ?_
      refine region ?_
      refine sv (yMove h9) ?_
      refine sv (yAsg rfl) ?_
      refine sv (yAsg rfl) ?_
      refine sv (yAsg rfl) ?_
      refine nil ?_
      show Code.wp _ _ _ _ _
      refine wp_ret (thenR ?_)
      refine retQ (res3 rfl rfl rfl rfl) ?_
      subst he1
      have hE := run_err c27
      exact .inl ⟨by rw [hE]; exact c27, by rw [hE]; rfl, hS.ext⟩
    ·
      simp only [BS, ne_eq] at c27
      have hre : runE0 b s l = 0 := by omega
      obtain ⟨hst, hln, -⟩ := run_st hre
      obtain ⟨hok, hso⟩ := st_ok hst
      refine skip ?_
      show Code.wp _ _ _ _ _
      refine seq ?_
      refine region ?_
      refine sv (yAsg rfl) ?_
      refine nil ?_
      show Code.wp _ _ _ _ _
      refine seq ?_
      refine region ?_
      refine sv (yAsg rfl) ?_
      refine nil ?_
      show Code.wp _ _ _ _ _
      refine seq ?_
      refine seq ?_
      refine region ?_
      refine sv (yAsg rfl) ?_
      refine nil ?_
      show Code.wp _ _ _ _ _
      refine block ?_
      refine loop (fun f w zz => ∃ (k : Nat) (v1 v2 vk : Value) (xs1 : List Value) (css2 : Css) (Hs : List Bx.Item), f 2 = .slice al l.length cl ∧ f 3 = .pointer (some ⟨b3, 0, none⟩) ∧ f 4 = .pointer (some ⟨b4, 0, none⟩) ∧ f 10 = v1 ∧ f 11 = v2 ∧ f 12 = .int .i64 (k : Int) ∧ StX [] w0 w [rowI (v1) 87 2 k xs1, rowI (v2) 172 5 k css2.flatten, packI Hs, blk b4 [.int .i64 (stN b s l k).volume, vk] 87, blk b3 [.slice ar b.rows.length cr, .int .i64 b.leak, .int .i64 b.crest, .int .i64 b.over, .slice ap b.pols.length cp] 85] ∧ (k ≤ l.length) ∧ (∀ i, i < k → errN b s l i = 0) ∧ (∀ w, Ext w0 w → (∀ it ∈ Hs, it.ok w) → RBst w [.int .i64 (stN b s l k).volume, vk] (stN b s l k)) ∧ (∀ w, (∀ it ∈ Hs, it.ok w) → Bx.Rows w 5 RBfl css2 (flsL b s l k)) ∧ zz = l.length - k) _ ⟨_, rfl, 0, _, _, .slice af s.filled.length cf, [], [], [], h2, h3, h4, rfl, rfl, rfl, ((StX.pack (M := []) hS |>.nilrow 172 5).nilrow 87 2), (Nat.zero_le _), (fun i hi => absurd hi (Nat.not_lt_zero i)), (fun w e _ => hsq.ext e), (fun w _ => trivial), rfl⟩ ?_
      clear hS
      rintro f w _ ⟨k, v1, v2, vk, xs1, css2, Hs, h2, h3, h4, h10, h11, h12, hS, hk, hen, hqs, hqf, rfl⟩
      refine seq ?_
      refine seq ?_
      refine region ?_
      refine sv (yMove h12) ?_
      refine sv (yMove h2) ?_
      refine sv (yLen rfl Tryz.underlying94) ?_
      refine sv (yLss rfl rfl) ?_
      refine nil ?_
      show Code.wp _ _ _ _ _
      refine cond rfl (fun c32 => ?_) (fun c32 => ?_)
      ·
        simp only [BS, ne_eq] at c32
        have hkl : k < l.length := by omega
        obtain ⟨bx, ox, cx, hax, hlx, hcx, hRx, -⟩ := sl_at hl (tkL_get hkl)
        obtain ⟨rfl, hI⟩ := hRx
        have hsk := stN_ok hok hso k hen
        refine skip ?_
        show Code.wp _ _ _ _ _
        refine seq ?_
        refine block ?_
        refine seqJ (n := 60) (fun f w => ∃ (b13 b14 : Nat) (V f1 f2 f3 f4 : Int) (a1 : Option Addr) (n1 c1 : Nat) (a2 : Option Addr) (n2 c2 : Nat) (it : Bx.Item), f 2 = .slice al l.length cl ∧ f 3 = .pointer (some ⟨b3, 0, none⟩) ∧ f 4 = .pointer (some ⟨b4, 0, none⟩) ∧ f 10 = v1 ∧ f 11 = v2 ∧ f 12 = .int .i64 (k : Int) ∧ f 13 = .pointer (some ⟨b13, 0, none⟩) ∧ f 14 = .pointer (some ⟨b14, 0, none⟩) ∧ f 15 = .int .i64 (errN b s l k) ∧ StX [] w0 w [rowI (v1) 87 2 k xs1, rowI (v2) 172 5 k css2.flatten, it, blk b13 [.int .i64 V, .slice a1 n1 c1] 87, blk b14 [.int .i64 f1, .int .i64 f2, .int .i64 f3, .int .i64 f4, .slice a2 n2 c2] 172, packI Hs, blk b4 [.int .i64 (stN b s l k).volume, vk] 87, blk b3 [.slice ar b.rows.length cr, .int .i64 b.leak, .int .i64 b.crest, .int .i64 b.over, .slice ap b.pols.length cp] 85] ∧ (errN b s l k = 0 → V = (stN b s l (k + 1)).volume ∧ ∀ w, it.ok w → RBst w [.int .i64 V, .slice a1 n1 c1] (stN b s l (k + 1)) ∧ RBfl w [.int .i64 f1, .int .i64 f2, .int .i64 f3, .int .i64 f4, .slice a2 n2 c2] (flN b s l k)) ∧ True) ?_ ?_
        ·
          refine region_mix (fun w => StX [] w0 w [rowI (v1) 87 2 k xs1, rowI (v2) 172 5 k css2.flatten, packI Hs, blk b4 [.int .i64 (stN b s l k).volume, vk] 87, blk b3 [.slice ar b.rows.length cr, .int .i64 b.leak, .int .i64 b.crest, .int .i64 b.over, .slice ap b.pols.length cp] 85]) 16 mixed hS ?_
          clear hS; intro w hS
          refine f_step 0 (by kernel_rfl) rfl (fun c a a' w h => by obtain ⟨_, v, hv, _⟩ := h; cases hv) (by first | exact hS | exact hS.sub (.cons _ (List.Sublist.refl _)) | exact hS.sub (.cons _ (.cons _ (List.Sublist.refl _))) | exact hS.sub (.cons _ (.cons _ (.cons _ (List.Sublist.refl _))))) (fun w hS => (yLdBA h3 Tryz.isAgg85 Tryz.sizeOf85 (hS.at _) rfl rfl)) ?_
          refine f_step 1 (by kernel_rfl) rfl (fun c a a' w h => by obtain ⟨_, v, hv, _⟩ := h; cases hv) (by first | exact hS | exact hS.sub (.cons _ (List.Sublist.refl _)) | exact hS.sub (.cons _ (.cons _ (List.Sublist.refl _))) | exact hS.sub (.cons _ (.cons _ (.cons _ (List.Sublist.refl _))))) (fun w hS => (yLdBA h4 Tryz.isAgg87 Tryz.sizeOf87 (hS.at _) rfl rfl)) ?_
          refine f_step 2 (by kernel_rfl) rfl (fun c a a' w h => by obtain ⟨_, v, hv, _⟩ := h; cases hv) (by first | exact hS | exact hS.sub (.cons _ (List.Sublist.refl _)) | exact hS.sub (.cons _ (.cons _ (List.Sublist.refl _))) | exact hS.sub (.cons _ (.cons _ (.cons _ (List.Sublist.refl _))))) (fun w hS => (yMove h2)) ?_
          refine f_step 3 (by kernel_rfl) rfl (fun c a a' w h => by obtain ⟨_, v, hv, _⟩ := h; cases hv) (by first | exact hS | exact hS.sub (.cons _ (List.Sublist.refl _)) | exact hS.sub (.cons _ (.cons _ (List.Sublist.refl _))) | exact hS.sub (.cons _ (.cons _ (.cons _ (List.Sublist.refl _))))) (fun w hS => (yMove h12)) ?_
          refine f_step 4 (by kernel_rfl) rfl (fun c a a' w h => by obtain ⟨_, v, hv, _⟩ := h; cases hv) (by first | exact hS | exact hS.sub (.cons _ (List.Sublist.refl _)) | exact hS.sub (.cons _ (.cons _ (List.Sublist.refl _))) | exact hS.sub (.cons _ (.cons _ (.cons _ (List.Sublist.refl _))))) (fun w hS => (yIxa rfl hax rfl Tryz.runUnderlying94 Tryz.sizeOf96 (by omega) (by omega))) ?_
          refine f_step 5 (by kernel_rfl) rfl (fun c a a' w h => by obtain ⟨_, v, hv, _⟩ := h; cases hv) (by first | exact hS | exact hS.sub (.cons _ (List.Sublist.refl _)) | exact hS.sub (.cons _ (.cons _ (List.Sublist.refl _))) | exact hS.sub (.cons _ (.cons _ (.cons _ (List.Sublist.refl _))))) (fun w hS => (yLdA rfl Tryz.isAgg96 Tryz.sizeOf96 (hcx.ext hS.ext) rfl)) ?_
          show wpA _ _ _ _ _ _ _ _ _ _
          refine a_step (i := 6) (is := [11, 12]) (by kernel_rfl) ⟨?_, ?_, ?_, trivial⟩
          ·
            refine ⟨_, rfl, ?_⟩
            refine scall Tryz.call143 (.cons rfl (.cons rfl (.cons rfl .nil))) (c_step4S (h.ext hS.ext) (hqs _ hS.ext (fun it hi => hS.inpack (M := Hs) (by simp) hi)) hok hsk hI) ?_
            rintro _ w ⟨V, f1, f2, f3, f4, a1, n1, c1, a2, n2, c2, it, rfl, hit, hM⟩; replace hS := hS.call1 hM; clear hM
            refine nil ?_
            refine ⟨fun _ => (by first | exact hS | exact hS.sub (.cons _ (List.Sublist.refl _)) | exact hS.sub (.cons _ (.cons _ (List.Sublist.refl _))) | exact hS.sub (.cons _ (.cons _ (.cons _ (List.Sublist.refl _))))), ?_⟩
            show wpA _ _ _ _ _ _ _ _ _ _
            refine f_step 7 (by kernel_rfl) rfl (fun c a a' w h => by obtain ⟨_, v, hv, _⟩ := h; cases hv) (by first | exact hS | exact hS.sub (.cons _ (List.Sublist.refl _)) | exact hS.sub (.cons _ (.cons _ (List.Sublist.refl _))) | exact hS.sub (.cons _ (.cons _ (.cons _ (List.Sublist.refl _))))) (fun w hS => (yMove rfl)) ?_
            refine f_step 8 (by kernel_rfl) rfl (fun c a a' w h => by obtain ⟨_, v, hv, _⟩ := h; cases hv) (by first | exact hS | exact hS.sub (.cons _ (List.Sublist.refl _)) | exact hS.sub (.cons _ (.cons _ (List.Sublist.refl _))) | exact hS.sub (.cons _ (.cons _ (.cons _ (List.Sublist.refl _))))) (fun w hS => (yExt rfl rfl)) ?_
            refine f_step 9 (by kernel_rfl) rfl (fun c a a' w h => by obtain ⟨_, v, hv, _⟩ := h; cases hv) (by first | exact hS | exact hS.sub (.cons _ (List.Sublist.refl _)) | exact hS.sub (.cons _ (.cons _ (List.Sublist.refl _))) | exact hS.sub (.cons _ (.cons _ (.cons _ (List.Sublist.refl _))))) (fun w hS => (yExt rfl rfl)) ?_
            refine f_step 10 (by kernel_rfl) rfl (fun c a a' w h => by obtain ⟨_, v, hv, _⟩ := h; cases hv) (by first | exact hS | exact hS.sub (.cons _ (List.Sublist.refl _)) | exact hS.sub (.cons _ (.cons _ (List.Sublist.refl _))) | exact hS.sub (.cons _ (.cons _ (.cons _ (List.Sublist.refl _))))) (fun w hS => (yExt rfl rfl)) ?_
            show wpA _ _ _ _ _ _ _ _ _ _
            refine a_step (i := 11) (is := [12]) (by kernel_rfl) ⟨?_, ?_, trivial⟩
            ·
              refine ⟨_, rfl, ?_⟩
              refine salloc hS Tryz.zeroValue87 rfl ?_; clear hS; intro b13 w hS
              refine nil ?_
              refine ⟨fun _ => (by first | exact hS | exact hS.sub (.cons _ (List.Sublist.refl _)) | exact hS.sub (.cons _ (.cons _ (List.Sublist.refl _))) | exact hS.sub (.cons _ (.cons _ (.cons _ (List.Sublist.refl _))))), ?_⟩
              show wpA _ _ _ _ _ _ _ _ _ _
              show wpA _ _ _ _ _ _ _ _ _ _
              refine a_step (i := 12) (is := []) (by kernel_rfl) ⟨?_, trivial⟩
              refine ⟨_, rfl, ?_⟩
              refine salloc hS Tryz.zeroValue172 rfl ?_; clear hS; intro b14 w hS
              refine nil ?_
              refine ⟨fun _ => (by first | exact hS | exact hS.sub (.cons _ (List.Sublist.refl _)) | exact hS.sub (.cons _ (.cons _ (List.Sublist.refl _))) | exact hS.sub (.cons _ (.cons _ (.cons _ (List.Sublist.refl _))))), ?_⟩
              show wpA _ _ _ _ _ _ _ _ _ _
              show wpA _ _ _ _ _ _ _ _ _ _
              refine a_step (i := 13) (is := []) (by kernel_rfl) ⟨?_, trivial⟩
              refine ⟨_, rfl, ?_⟩
              refine sst hS rfl rfl Tryz.sizeOf87 rfl rfl rfl rfl ?_; clear hS; intro w hS
              refine nil ?_
              refine ⟨fun _ => (by first | exact hS | exact hS.sub (.cons _ (List.Sublist.refl _)) | exact hS.sub (.cons _ (.cons _ (List.Sublist.refl _))) | exact hS.sub (.cons _ (.cons _ (.cons _ (List.Sublist.refl _))))), ?_⟩
              show wpA _ _ _ _ _ _ _ _ _ _
              show wpA _ _ _ _ _ _ _ _ _ _
              refine a_step (i := 14) (is := []) (by kernel_rfl) ⟨?_, trivial⟩
              refine ⟨_, rfl, ?_⟩
              refine sst hS rfl rfl Tryz.sizeOf172 rfl rfl rfl rfl ?_; clear hS; intro w hS
              refine nil ?_
              refine ⟨fun _ => (by first | exact hS | exact hS.sub (.cons _ (List.Sublist.refl _)) | exact hS.sub (.cons _ (.cons _ (List.Sublist.refl _))) | exact hS.sub (.cons _ (.cons _ (.cons _ (List.Sublist.refl _))))), ?_⟩
              show wpA _ _ _ _ _ _ _ _ _ _
              refine f_step 15 (by kernel_rfl) rfl (fun c a a' w h => by obtain ⟨_, v, hv, _⟩ := h; cases hv) (by first | exact hS | exact hS.sub (.cons _ (List.Sublist.refl _)) | exact hS.sub (.cons _ (.cons _ (List.Sublist.refl _))) | exact hS.sub (.cons _ (.cons _ (.cons _ (List.Sublist.refl _))))) (fun w hS => (yAsg rfl)) ?_
              refine a_end (by kernel_rfl) ?_
              exact ⟨_, rfl, b13, b14, V, f1, f2, f3, f4, a1, n1, c1, a2, n2, c2, it, h2, h3, h4, h10, h11, h12, rfl, rfl, rfl, (by first | exact (((((hS).front (A := [_, _])).front (A := [_, _])).front (A := [_, _])).front (A := [_, _, _, _])).front (A := [_, _, _, _]) | exact (((((hS).front (A := [_])).front (A := [_, _])).front (A := [_, _])).front (A := [_, _, _, _])).front (A := [_, _, _, _]) | exact (((((hS).front (A := [_, _])).front (A := [_])).front (A := [_, _])).front (A := [_, _, _, _])).front (A := [_, _, _, _]) | exact (((((hS).front (A := [_])).front (A := [_])).front (A := [_, _])).front (A := [_, _, _, _])).front (A := [_, _, _, _]) | exact (((((hS).front (A := [])).front (A := [_, _])).front (A := [_, _])).front (A := [_, _, _, _])).front (A := [_, _, _, _]) | exact (((((hS).front (A := [])).front (A := [_])).front (A := [_, _])).front (A := [_, _, _, _])).front (A := [_, _, _, _])), (hit), trivial⟩
            ·
              refine ⟨_, rfl, ?_⟩
              refine salloc hS Tryz.zeroValue172 rfl ?_; clear hS; intro b14 w hS
              refine nil ?_
              refine ⟨fun _ => (by first | exact hS | exact hS.sub (.cons _ (List.Sublist.refl _)) | exact hS.sub (.cons _ (.cons _ (List.Sublist.refl _))) | exact hS.sub (.cons _ (.cons _ (.cons _ (List.Sublist.refl _))))), ?_⟩
              show wpA _ _ _ _ _ _ _ _ _ _
              show wpA _ _ _ _ _ _ _ _ _ _
              refine a_step (i := 11) (is := []) (by kernel_rfl) ⟨?_, trivial⟩
              refine ⟨_, rfl, ?_⟩
              refine salloc hS Tryz.zeroValue87 rfl ?_; clear hS; intro b13 w hS
              refine nil ?_
              refine ⟨fun _ => (by first | exact hS | exact hS.sub (.cons _ (List.Sublist.refl _)) | exact hS.sub (.cons _ (.cons _ (List.Sublist.refl _))) | exact hS.sub (.cons _ (.cons _ (.cons _ (List.Sublist.refl _))))), ?_⟩
              show wpA _ _ _ _ _ _ _ _ _ _
              show wpA _ _ _ _ _ _ _ _ _ _
              refine a_step (i := 13) (is := []) (by kernel_rfl) ⟨?_, trivial⟩
              refine ⟨_, rfl, ?_⟩
              refine sst hS rfl rfl Tryz.sizeOf87 rfl rfl rfl rfl ?_; clear hS; intro w hS
              refine nil ?_
              refine ⟨fun _ => (by first | exact hS | exact hS.sub (.cons _ (List.Sublist.refl _)) | exact hS.sub (.cons _ (.cons _ (List.Sublist.refl _))) | exact hS.sub (.cons _ (.cons _ (.cons _ (List.Sublist.refl _))))), ?_⟩
              show wpA _ _ _ _ _ _ _ _ _ _
              show wpA _ _ _ _ _ _ _ _ _ _
              refine a_step (i := 14) (is := []) (by kernel_rfl) ⟨?_, trivial⟩
              refine ⟨_, rfl, ?_⟩
              refine sst hS rfl rfl Tryz.sizeOf172 rfl rfl rfl rfl ?_; clear hS; intro w hS
              refine nil ?_
              refine ⟨fun _ => (by first | exact hS | exact hS.sub (.cons _ (List.Sublist.refl _)) | exact hS.sub (.cons _ (.cons _ (List.Sublist.refl _))) | exact hS.sub (.cons _ (.cons _ (.cons _ (List.Sublist.refl _))))), ?_⟩
              show wpA _ _ _ _ _ _ _ _ _ _
              refine f_step 15 (by kernel_rfl) rfl (fun c a a' w h => by obtain ⟨_, v, hv, _⟩ := h; cases hv) (by first | exact hS | exact hS.sub (.cons _ (List.Sublist.refl _)) | exact hS.sub (.cons _ (.cons _ (List.Sublist.refl _))) | exact hS.sub (.cons _ (.cons _ (.cons _ (List.Sublist.refl _))))) (fun w hS => (yAsg rfl)) ?_
              refine a_end (by kernel_rfl) ?_
              exact ⟨_, rfl, b13, b14, V, f1, f2, f3, f4, a1, n1, c1, a2, n2, c2, it, h2, h3, h4, h10, h11, h12, rfl, rfl, rfl, (by first | exact (((((hS).front (A := [_, _])).front (A := [_, _])).front (A := [_, _])).front (A := [_, _, _, _])).front (A := [_, _, _, _]) | exact (((((hS).front (A := [_])).front (A := [_, _])).front (A := [_, _])).front (A := [_, _, _, _])).front (A := [_, _, _, _]) | exact (((((hS).front (A := [_, _])).front (A := [_])).front (A := [_, _])).front (A := [_, _, _, _])).front (A := [_, _, _, _]) | exact (((((hS).front (A := [_])).front (A := [_])).front (A := [_, _])).front (A := [_, _, _, _])).front (A := [_, _, _, _]) | exact (((((hS).front (A := [])).front (A := [_, _])).front (A := [_, _])).front (A := [_, _, _, _])).front (A := [_, _, _, _]) | exact (((((hS).front (A := [])).front (A := [_])).front (A := [_, _])).front (A := [_, _, _, _])).front (A := [_, _, _, _])), (hit), trivial⟩
          ·
            refine ⟨_, rfl, ?_⟩
            refine salloc hS Tryz.zeroValue87 rfl ?_; clear hS; intro b13 w hS
            refine nil ?_
            refine ⟨fun _ => (by first | exact hS | exact hS.sub (.cons _ (List.Sublist.refl _)) | exact hS.sub (.cons _ (.cons _ (List.Sublist.refl _))) | exact hS.sub (.cons _ (.cons _ (.cons _ (List.Sublist.refl _))))), ?_⟩
            show wpA _ _ _ _ _ _ _ _ _ _
            show wpA _ _ _ _ _ _ _ _ _ _
            refine a_step (i := 6) (is := [12]) (by kernel_rfl) ⟨?_, ?_, trivial⟩
            ·
              refine ⟨_, rfl, ?_⟩
              refine scall Tryz.call143 (.cons rfl (.cons rfl (.cons rfl .nil))) (c_step4S (h.ext hS.ext) (hqs _ hS.ext (fun it hi => hS.inpack (M := Hs) (by simp) hi)) hok hsk hI) ?_
              rintro _ w ⟨V, f1, f2, f3, f4, a1, n1, c1, a2, n2, c2, it, rfl, hit, hM⟩; replace hS := hS.call1 hM; clear hM
              refine nil ?_
              refine ⟨fun _ => (by first | exact hS | exact hS.sub (.cons _ (List.Sublist.refl _)) | exact hS.sub (.cons _ (.cons _ (List.Sublist.refl _))) | exact hS.sub (.cons _ (.cons _ (.cons _ (List.Sublist.refl _))))), ?_⟩
              show wpA _ _ _ _ _ _ _ _ _ _
              refine f_step 7 (by kernel_rfl) rfl (fun c a a' w h => by obtain ⟨_, v, hv, _⟩ := h; cases hv) (by first | exact hS | exact hS.sub (.cons _ (List.Sublist.refl _)) | exact hS.sub (.cons _ (.cons _ (List.Sublist.refl _))) | exact hS.sub (.cons _ (.cons _ (.cons _ (List.Sublist.refl _))))) (fun w hS => (yMove rfl)) ?_
              refine f_step 8 (by kernel_rfl) rfl (fun c a a' w h => by obtain ⟨_, v, hv, _⟩ := h; cases hv) (by first | exact hS | exact hS.sub (.cons _ (List.Sublist.refl _)) | exact hS.sub (.cons _ (.cons _ (List.Sublist.refl _))) | exact hS.sub (.cons _ (.cons _ (.cons _ (List.Sublist.refl _))))) (fun w hS => (yExt rfl rfl)) ?_
              refine f_step 9 (by kernel_rfl) rfl (fun c a a' w h => by obtain ⟨_, v, hv, _⟩ := h; cases hv) (by first | exact hS | exact hS.sub (.cons _ (List.Sublist.refl _)) | exact hS.sub (.cons _ (.cons _ (List.Sublist.refl _))) | exact hS.sub (.cons _ (.cons _ (.cons _ (List.Sublist.refl _))))) (fun w hS => (yExt rfl rfl)) ?_
              refine f_step 10 (by kernel_rfl) rfl (fun c a a' w h => by obtain ⟨_, v, hv, _⟩ := h; cases hv) (by first | exact hS | exact hS.sub (.cons _ (List.Sublist.refl _)) | exact hS.sub (.cons _ (.cons _ (List.Sublist.refl _))) | exact hS.sub (.cons _ (.cons _ (.cons _ (List.Sublist.refl _))))) (fun w hS => (yExt rfl rfl)) ?_
              show wpA _ _ _ _ _ _ _ _ _ _
              refine a_step (i := 12) (is := []) (by kernel_rfl) ⟨?_, trivial⟩
              refine ⟨_, rfl, ?_⟩
              refine salloc hS Tryz.zeroValue172 rfl ?_; clear hS; intro b14 w hS
              refine nil ?_
              refine ⟨fun _ => (by first | exact hS | exact hS.sub (.cons _ (List.Sublist.refl _)) | exact hS.sub (.cons _ (.cons _ (List.Sublist.refl _))) | exact hS.sub (.cons _ (.cons _ (.cons _ (List.Sublist.refl _))))), ?_⟩
              show wpA _ _ _ _ _ _ _ _ _ _
              show wpA _ _ _ _ _ _ _ _ _ _
              refine a_step (i := 13) (is := []) (by kernel_rfl) ⟨?_, trivial⟩
              refine ⟨_, rfl, ?_⟩
              refine sst hS rfl rfl Tryz.sizeOf87 rfl rfl rfl rfl ?_; clear hS; intro w hS
              refine nil ?_
              refine ⟨fun _ => (by first | exact hS | exact hS.sub (.cons _ (List.Sublist.refl _)) | exact hS.sub (.cons _ (.cons _ (List.Sublist.refl _))) | exact hS.sub (.cons _ (.cons _ (.cons _ (List.Sublist.refl _))))), ?_⟩
              show wpA _ _ _ _ _ _ _ _ _ _
              show wpA _ _ _ _ _ _ _ _ _ _
              refine a_step (i := 14) (is := []) (by kernel_rfl) ⟨?_, trivial⟩
              refine ⟨_, rfl, ?_⟩
              refine sst hS rfl rfl Tryz.sizeOf172 rfl rfl rfl rfl ?_; clear hS; intro w hS
              refine nil ?_
              refine ⟨fun _ => (by first | exact hS | exact hS.sub (.cons _ (List.Sublist.refl _)) | exact hS.sub (.cons _ (.cons _ (List.Sublist.refl _))) | exact hS.sub (.cons _ (.cons _ (.cons _ (List.Sublist.refl _))))), ?_⟩
              show wpA _ _ _ _ _ _ _ _ _ _
              refine f_step 15 (by kernel_rfl) rfl (fun c a a' w h => by obtain ⟨_, v, hv, _⟩ := h; cases hv) (by first | exact hS | exact hS.sub (.cons _ (List.Sublist.refl _)) | exact hS.sub (.cons _ (.cons _ (List.Sublist.refl _))) | exact hS.sub (.cons _ (.cons _ (.cons _ (List.Sublist.refl _))))) (fun w hS => (yAsg rfl)) ?_
              refine a_end (by kernel_rfl) ?_
              exact ⟨_, rfl, b13, b14, V, f1, f2, f3, f4, a1, n1, c1, a2, n2, c2, it, h2, h3, h4, h10, h11, h12, rfl, rfl, rfl, (by first | exact (((((hS).front (A := [_, _])).front (A := [_, _])).front (A := [_, _])).front (A := [_, _, _, _])).front (A := [_, _, _, _]) | exact (((((hS).front (A := [_])).front (A := [_, _])).front (A := [_, _])).front (A := [_, _, _, _])).front (A := [_, _, _, _]) | exact (((((hS).front (A := [_, _])).front (A := [_])).front (A := [_, _])).front (A := [_, _, _, _])).front (A := [_, _, _, _]) | exact (((((hS).front (A := [_])).front (A := [_])).front (A := [_, _])).front (A := [_, _, _, _])).front (A := [_, _, _, _]) | exact (((((hS).front (A := [])).front (A := [_, _])).front (A := [_, _])).front (A := [_, _, _, _])).front (A := [_, _, _, _]) | exact (((((hS).front (A := [])).front (A := [_])).front (A := [_, _])).front (A := [_, _, _, _])).front (A := [_, _, _, _])), (hit), trivial⟩
            ·
              refine ⟨_, rfl, ?_⟩
              refine salloc hS Tryz.zeroValue172 rfl ?_; clear hS; intro b14 w hS
              refine nil ?_
              refine ⟨fun _ => (by first | exact hS | exact hS.sub (.cons _ (List.Sublist.refl _)) | exact hS.sub (.cons _ (.cons _ (List.Sublist.refl _))) | exact hS.sub (.cons _ (.cons _ (.cons _ (List.Sublist.refl _))))), ?_⟩
              show wpA _ _ _ _ _ _ _ _ _ _
              show wpA _ _ _ _ _ _ _ _ _ _
              refine a_step (i := 6) (is := []) (by kernel_rfl) ⟨?_, trivial⟩
              refine ⟨_, rfl, ?_⟩
              refine scall Tryz.call143 (.cons rfl (.cons rfl (.cons rfl .nil))) (c_step4S (h.ext hS.ext) (hqs _ hS.ext (fun it hi => hS.inpack (M := Hs) (by simp) hi)) hok hsk hI) ?_
              rintro _ w ⟨V, f1, f2, f3, f4, a1, n1, c1, a2, n2, c2, it, rfl, hit, hM⟩; replace hS := hS.call1 hM; clear hM
              refine nil ?_
              refine ⟨fun _ => (by first | exact hS | exact hS.sub (.cons _ (List.Sublist.refl _)) | exact hS.sub (.cons _ (.cons _ (List.Sublist.refl _))) | exact hS.sub (.cons _ (.cons _ (.cons _ (List.Sublist.refl _))))), ?_⟩
              show wpA _ _ _ _ _ _ _ _ _ _
              refine f_step 7 (by kernel_rfl) rfl (fun c a a' w h => by obtain ⟨_, v, hv, _⟩ := h; cases hv) (by first | exact hS | exact hS.sub (.cons _ (List.Sublist.refl _)) | exact hS.sub (.cons _ (.cons _ (List.Sublist.refl _))) | exact hS.sub (.cons _ (.cons _ (.cons _ (List.Sublist.refl _))))) (fun w hS => (yMove rfl)) ?_
              refine f_step 8 (by kernel_rfl) rfl (fun c a a' w h => by obtain ⟨_, v, hv, _⟩ := h; cases hv) (by first | exact hS | exact hS.sub (.cons _ (List.Sublist.refl _)) | exact hS.sub (.cons _ (.cons _ (List.Sublist.refl _))) | exact hS.sub (.cons _ (.cons _ (.cons _ (List.Sublist.refl _))))) (fun w hS => (yExt rfl rfl)) ?_
              refine f_step 9 (by kernel_rfl) rfl (fun c a a' w h => by obtain ⟨_, v, hv, _⟩ := h; cases hv) (by first | exact hS | exact hS.sub (.cons _ (List.Sublist.refl _)) | exact hS.sub (.cons _ (.cons _ (List.Sublist.refl _))) | exact hS.sub (.cons _ (.cons _ (.cons _ (List.Sublist.refl _))))) (fun w hS => (yExt rfl rfl)) ?_
              refine f_step 10 (by kernel_rfl) rfl (fun c a a' w h => by obtain ⟨_, v, hv, _⟩ := h; cases hv) (by first | exact hS | exact hS.sub (.cons _ (List.Sublist.refl _)) | exact hS.sub (.cons _ (.cons _ (List.Sublist.refl _))) | exact hS.sub (.cons _ (.cons _ (.cons _ (List.Sublist.refl _))))) (fun w hS => (yExt rfl rfl)) ?_
              show wpA _ _ _ _ _ _ _ _ _ _
              refine a_step (i := 13) (is := []) (by kernel_rfl) ⟨?_, trivial⟩
              refine ⟨_, rfl, ?_⟩
              refine sst hS rfl rfl Tryz.sizeOf87 rfl rfl rfl rfl ?_; clear hS; intro w hS
              refine nil ?_
              refine ⟨fun _ => (by first | exact hS | exact hS.sub (.cons _ (List.Sublist.refl _)) | exact hS.sub (.cons _ (.cons _ (List.Sublist.refl _))) | exact hS.sub (.cons _ (.cons _ (.cons _ (List.Sublist.refl _))))), ?_⟩
              show wpA _ _ _ _ _ _ _ _ _ _
              show wpA _ _ _ _ _ _ _ _ _ _
              refine a_step (i := 14) (is := []) (by kernel_rfl) ⟨?_, trivial⟩
              refine ⟨_, rfl, ?_⟩
              refine sst hS rfl rfl Tryz.sizeOf172 rfl rfl rfl rfl ?_; clear hS; intro w hS
              refine nil ?_
              refine ⟨fun _ => (by first | exact hS | exact hS.sub (.cons _ (List.Sublist.refl _)) | exact hS.sub (.cons _ (.cons _ (List.Sublist.refl _))) | exact hS.sub (.cons _ (.cons _ (.cons _ (List.Sublist.refl _))))), ?_⟩
              show wpA _ _ _ _ _ _ _ _ _ _
              refine f_step 15 (by kernel_rfl) rfl (fun c a a' w h => by obtain ⟨_, v, hv, _⟩ := h; cases hv) (by first | exact hS | exact hS.sub (.cons _ (List.Sublist.refl _)) | exact hS.sub (.cons _ (.cons _ (List.Sublist.refl _))) | exact hS.sub (.cons _ (.cons _ (.cons _ (List.Sublist.refl _))))) (fun w hS => (yAsg rfl)) ?_
              refine a_end (by kernel_rfl) ?_
              exact ⟨_, rfl, b13, b14, V, f1, f2, f3, f4, a1, n1, c1, a2, n2, c2, it, h2, h3, h4, h10, h11, h12, rfl, rfl, rfl, (by first | exact (((((hS).front (A := [_, _])).front (A := [_, _])).front (A := [_, _])).front (A := [_, _, _, _])).front (A := [_, _, _, _]) | exact (((((hS).front (A := [_])).front (A := [_, _])).front (A := [_, _])).front (A := [_, _, _, _])).front (A := [_, _, _, _]) | exact (((((hS).front (A := [_, _])).front (A := [_])).front (A := [_, _])).front (A := [_, _, _, _])).front (A := [_, _, _, _]) | exact (((((hS).front (A := [_])).front (A := [_])).front (A := [_, _])).front (A := [_, _, _, _])).front (A := [_, _, _, _]) | exact (((((hS).front (A := [])).front (A := [_, _])).front (A := [_, _])).front (A := [_, _, _, _])).front (A := [_, _, _, _]) | exact (((((hS).front (A := [])).front (A := [_])).front (A := [_, _])).front (A := [_, _, _, _])).front (A := [_, _, _, _])), (hit), trivial⟩
          ·
            refine ⟨_, rfl, ?_⟩
            refine salloc hS Tryz.zeroValue172 rfl ?_; clear hS; intro b14 w hS
            refine nil ?_
            refine ⟨fun _ => (by first | exact hS | exact hS.sub (.cons _ (List.Sublist.refl _)) | exact hS.sub (.cons _ (.cons _ (List.Sublist.refl _))) | exact hS.sub (.cons _ (.cons _ (.cons _ (List.Sublist.refl _))))), ?_⟩
            show wpA _ _ _ _ _ _ _ _ _ _
            show wpA _ _ _ _ _ _ _ _ _ _
            refine a_step (i := 6) (is := [11]) (by kernel_rfl) ⟨?_, ?_, trivial⟩
            ·
              refine ⟨_, rfl, ?_⟩
              refine scall Tryz.call143 (.cons rfl (.cons rfl (.cons rfl .nil))) (c_step4S (h.ext hS.ext) (hqs _ hS.ext (fun it hi => hS.inpack (M := Hs) (by simp) hi)) hok hsk hI) ?_
              rintro _ w ⟨V, f1, f2, f3, f4, a1, n1, c1, a2, n2, c2, it, rfl, hit, hM⟩; replace hS := hS.call1 hM; clear hM
              refine nil ?_
              refine ⟨fun _ => (by first | exact hS | exact hS.sub (.cons _ (List.Sublist.refl _)) | exact hS.sub (.cons _ (.cons _ (List.Sublist.refl _))) | exact hS.sub (.cons _ (.cons _ (.cons _ (List.Sublist.refl _))))), ?_⟩
              show wpA _ _ _ _ _ _ _ _ _ _
              refine f_step 7 (by kernel_rfl) rfl (fun c a a' w h => by obtain ⟨_, v, hv, _⟩ := h; cases hv) (by first | exact hS | exact hS.sub (.cons _ (List.Sublist.refl _)) | exact hS.sub (.cons _ (.cons _ (List.Sublist.refl _))) | exact hS.sub (.cons _ (.cons _ (.cons _ (List.Sublist.refl _))))) (fun w hS => (yMove rfl)) ?_
              refine f_step 8 (by kernel_rfl) rfl (fun c a a' w h => by obtain ⟨_, v, hv, _⟩ := h; cases hv) (by first | exact hS | exact hS.sub (.cons _ (List.Sublist.refl _)) | exact hS.sub (.cons _ (.cons _ (List.Sublist.refl _))) | exact hS.sub (.cons _ (.cons _ (.cons _ (List.Sublist.refl _))))) (fun w hS => (yExt rfl rfl)) ?_
              refine f_step 9 (by kernel_rfl) rfl (fun c a a' w h => by obtain ⟨_, v, hv, _⟩ := h; cases hv) (by first | exact hS | exact hS.sub (.cons _ (List.Sublist.refl _)) | exact hS.sub (.cons _ (.cons _ (List.Sublist.refl _))) | exact hS.sub (.cons _ (.cons _ (.cons _ (List.Sublist.refl _))))) (fun w hS => (yExt rfl rfl)) ?_
              refine f_step 10 (by kernel_rfl) rfl (fun c a a' w h => by obtain ⟨_, v, hv, _⟩ := h; cases hv) (by first | exact hS | exact hS.sub (.cons _ (List.Sublist.refl _)) | exact hS.sub (.cons _ (.cons _ (List.Sublist.refl _))) | exact hS.sub (.cons _ (.cons _ (.cons _ (List.Sublist.refl _))))) (fun w hS => (yExt rfl rfl)) ?_
              show wpA _ _ _ _ _ _ _ _ _ _
              refine a_step (i := 11) (is := []) (by kernel_rfl) ⟨?_, trivial⟩
              refine ⟨_, rfl, ?_⟩
              refine salloc hS Tryz.zeroValue87 rfl ?_; clear hS; intro b13 w hS
              refine nil ?_
              refine ⟨fun _ => (by first | exact hS | exact hS.sub (.cons _ (List.Sublist.refl _)) | exact hS.sub (.cons _ (.cons _ (List.Sublist.refl _))) | exact hS.sub (.cons _ (.cons _ (.cons _ (List.Sublist.refl _))))), ?_⟩
              show wpA _ _ _ _ _ _ _ _ _ _
              show wpA _ _ _ _ _ _ _ _ _ _
              refine a_step (i := 13) (is := []) (by kernel_rfl) ⟨?_, trivial⟩
              refine ⟨_, rfl, ?_⟩
              refine sst hS rfl rfl Tryz.sizeOf87 rfl rfl rfl rfl ?_; clear hS; intro w hS
              refine nil ?_
              refine ⟨fun _ => (by first | exact hS | exact hS.sub (.cons _ (List.Sublist.refl _)) | exact hS.sub (.cons _ (.cons _ (List.Sublist.refl _))) | exact hS.sub (.cons _ (.cons _ (.cons _ (List.Sublist.refl _))))), ?_⟩
              show wpA _ _ _ _ _ _ _ _ _ _
              show wpA _ _ _ _ _ _ _ _ _ _
              refine a_step (i := 14) (is := []) (by kernel_rfl) ⟨?_, trivial⟩
              refine ⟨_, rfl, ?_⟩
              refine sst hS rfl rfl Tryz.sizeOf172 rfl rfl rfl rfl ?_; clear hS; intro w hS
              refine nil ?_
              refine ⟨fun _ => (by first | exact hS | exact hS.sub (.cons _ (List.Sublist.refl _)) | exact hS.sub (.cons _ (.cons _ (List.Sublist.refl _))) | exact hS.sub (.cons _ (.cons _ (.cons _ (List.Sublist.refl _))))), ?_⟩
              show wpA _ _ _ _ _ _ _ _ _ _
              refine f_step 15 (by kernel_rfl) rfl (fun c a a' w h => by obtain ⟨_, v, hv, _⟩ := h; cases hv) (by first | exact hS | exact hS.sub (.cons _ (List.Sublist.refl _)) | exact hS.sub (.cons _ (.cons _ (List.Sublist.refl _))) | exact hS.sub (.cons _ (.cons _ (.cons _ (List.Sublist.refl _))))) (fun w hS => (yAsg rfl)) ?_
              refine a_end (by kernel_rfl) ?_
              exact ⟨_, rfl, b13, b14, V, f1, f2, f3, f4, a1, n1, c1, a2, n2, c2, it, h2, h3, h4, h10, h11, h12, rfl, rfl, rfl, (by first | exact (((((hS).front (A := [_, _])).front (A := [_, _])).front (A := [_, _])).front (A := [_, _, _, _])).front (A := [_, _, _, _]) | exact (((((hS).front (A := [_])).front (A := [_, _])).front (A := [_, _])).front (A := [_, _, _, _])).front (A := [_, _, _, _]) | exact (((((hS).front (A := [_, _])).front (A := [_])).front (A := [_, _])).front (A := [_, _, _, _])).front (A := [_, _, _, _]) | exact (((((hS).front (A := [_])).front (A := [_])).front (A := [_, _])).front (A := [_, _, _, _])).front (A := [_, _, _, _]) | exact (((((hS).front (A := [])).front (A := [_, _])).front (A := [_, _])).front (A := [_, _, _, _])).front (A := [_, _, _, _]) | exact (((((hS).front (A := [])).front (A := [_])).front (A := [_, _])).front (A := [_, _, _, _])).front (A := [_, _, _, _])), (hit), trivial⟩
            ·
              refine ⟨_, rfl, ?_⟩
              refine salloc hS Tryz.zeroValue87 rfl ?_; clear hS; intro b13 w hS
              refine nil ?_
              refine ⟨fun _ => (by first | exact hS | exact hS.sub (.cons _ (List.Sublist.refl _)) | exact hS.sub (.cons _ (.cons _ (List.Sublist.refl _))) | exact hS.sub (.cons _ (.cons _ (.cons _ (List.Sublist.refl _))))), ?_⟩
              show wpA _ _ _ _ _ _ _ _ _ _
              show wpA _ _ _ _ _ _ _ _ _ _
              refine a_step (i := 6) (is := []) (by kernel_rfl) ⟨?_, trivial⟩
              refine ⟨_, rfl, ?_⟩
              refine scall Tryz.call143 (.cons rfl (.cons rfl (.cons rfl .nil))) (c_step4S (h.ext hS.ext) (hqs _ hS.ext (fun it hi => hS.inpack (M := Hs) (by simp) hi)) hok hsk hI) ?_
              rintro _ w ⟨V, f1, f2, f3, f4, a1, n1, c1, a2, n2, c2, it, rfl, hit, hM⟩; replace hS := hS.call1 hM; clear hM
              refine nil ?_
              refine ⟨fun _ => (by first | exact hS | exact hS.sub (.cons _ (List.Sublist.refl _)) | exact hS.sub (.cons _ (.cons _ (List.Sublist.refl _))) | exact hS.sub (.cons _ (.cons _ (.cons _ (List.Sublist.refl _))))), ?_⟩
              show wpA _ _ _ _ _ _ _ _ _ _
              refine f_step 7 (by kernel_rfl) rfl (fun c a a' w h => by obtain ⟨_, v, hv, _⟩ := h; cases hv) (by first | exact hS | exact hS.sub (.cons _ (List.Sublist.refl _)) | exact hS.sub (.cons _ (.cons _ (List.Sublist.refl _))) | exact hS.sub (.cons _ (.cons _ (.cons _ (List.Sublist.refl _))))) (fun w hS => (yMove rfl)) ?_
              refine f_step 8 (by kernel_rfl) rfl (fun c a a' w h => by obtain ⟨_, v, hv, _⟩ := h; cases hv) (by first | exact hS | exact hS.sub (.cons _ (List.Sublist.refl _)) | exact hS.sub (.cons _ (.cons _ (List.Sublist.refl _))) | exact hS.sub (.cons _ (.cons _ (.cons _ (List.Sublist.refl _))))) (fun w hS => (yExt rfl rfl)) ?_
              refine f_step 9 (by kernel_rfl) rfl (fun c a a' w h => by obtain ⟨_, v, hv, _⟩ := h; cases hv) (by first | exact hS | exact hS.sub (.cons _ (List.Sublist.refl _)) | exact hS.sub (.cons _ (.cons _ (List.Sublist.refl _))) | exact hS.sub (.cons _ (.cons _ (.cons _ (List.Sublist.refl _))))) (fun w hS => (yExt rfl rfl)) ?_
              refine f_step 10 (by kernel_rfl) rfl (fun c a a' w h => by obtain ⟨_, v, hv, _⟩ := h; cases hv) (by first | exact hS | exact hS.sub (.cons _ (List.Sublist.refl _)) | exact hS.sub (.cons _ (.cons _ (List.Sublist.refl _))) | exact hS.sub (.cons _ (.cons _ (.cons _ (List.Sublist.refl _))))) (fun w hS => (yExt rfl rfl)) ?_
              show wpA _ _ _ _ _ _ _ _ _ _
              refine a_step (i := 13) (is := []) (by kernel_rfl) ⟨?_, trivial⟩
              refine ⟨_, rfl, ?_⟩
              refine sst hS rfl rfl Tryz.sizeOf87 rfl rfl rfl rfl ?_; clear hS; intro w hS
              refine nil ?_
              refine ⟨fun _ => (by first | exact hS | exact hS.sub (.cons _ (List.Sublist.refl _)) | exact hS.sub (.cons _ (.cons _ (List.Sublist.refl _))) | exact hS.sub (.cons _ (.cons _ (.cons _ (List.Sublist.refl _))))), ?_⟩
              show wpA _ _ _ _ _ _ _ _ _ _
              show wpA _ _ _ _ _ _ _ _ _ _
              refine a_step (i := 14) (is := []) (by kernel_rfl) ⟨?_, trivial⟩
              refine ⟨_, rfl, ?_⟩
              refine sst hS rfl rfl Tryz.sizeOf172 rfl rfl rfl rfl ?_; clear hS; intro w hS
              refine nil ?_
              refine ⟨fun _ => (by first | exact hS | exact hS.sub (.cons _ (List.Sublist.refl _)) | exact hS.sub (.cons _ (.cons _ (List.Sublist.refl _))) | exact hS.sub (.cons _ (.cons _ (.cons _ (List.Sublist.refl _))))), ?_⟩
              show wpA _ _ _ _ _ _ _ _ _ _
              refine f_step 15 (by kernel_rfl) rfl (fun c a a' w h => by obtain ⟨_, v, hv, _⟩ := h; cases hv) (by first | exact hS | exact hS.sub (.cons _ (List.Sublist.refl _)) | exact hS.sub (.cons _ (.cons _ (List.Sublist.refl _))) | exact hS.sub (.cons _ (.cons _ (.cons _ (List.Sublist.refl _))))) (fun w hS => (yAsg rfl)) ?_
              refine a_end (by kernel_rfl) ?_
              exact ⟨_, rfl, b13, b14, V, f1, f2, f3, f4, a1, n1, c1, a2, n2, c2, it, h2, h3, h4, h10, h11, h12, rfl, rfl, rfl, (by first | exact (((((hS).front (A := [_, _])).front (A := [_, _])).front (A := [_, _])).front (A := [_, _, _, _])).front (A := [_, _, _, _]) | exact (((((hS).front (A := [_])).front (A := [_, _])).front (A := [_, _])).front (A := [_, _, _, _])).front (A := [_, _, _, _]) | exact (((((hS).front (A := [_, _])).front (A := [_])).front (A := [_, _])).front (A := [_, _, _, _])).front (A := [_, _, _, _]) | exact (((((hS).front (A := [_])).front (A := [_])).front (A := [_, _])).front (A := [_, _, _, _])).front (A := [_, _, _, _]) | exact (((((hS).front (A := [])).front (A := [_, _])).front (A := [_, _])).front (A := [_, _, _, _])).front (A := [_, _, _, _]) | exact (((((hS).front (A := [])).front (A := [_])).front (A := [_, _])).front (A := [_, _, _, _])).front (A := [_, _, _, _])), (hit), trivial⟩
        ·
          clear hS; rintro f w ⟨b13, b14, V, f1, f2, f3, f4, a1, n1, c1, a2, n2, c2, it, h2, h3, h4, h10, h11, h12, h13, h14, h15, hS, hit, -⟩
          refine seq ?_
          refine seq ?_
          refine region ?_
          refine sv (yMove h15) ?_
          refine sv (yNeq rfl rfl) ?_
          refine nil ?_
          show Code.wp _ _ _ _ _
          refine cond rfl (fun c47 => ?_) (fun c47 => ?_)
          ·
            simp only [BS, ne_eq] at c47
            refine seq ?_
            refine region ?_
            refine sv (yMove h15) ?_
            refine sv (yAsg rfl) ?_
            refine sv (yAsg rfl) ?_
            refine sv (yAsg rfl) ?_
            refine nil ?_
            show Code.wp _ _ _ _ _
            refine wp_ret (thenR (blockR (thenR (thenR (blockR (thenR ?_))))))
            refine retQ (res3 rfl rfl rfl rfl) ?_
            have hE := run_at hre hkl hen c47
            exact .inl ⟨by rw [hE]; exact c47, by rw [hE]; rfl, hS.ext⟩
          ·
            simp only [BS, ne_eq] at c47
            have he0 : errN b s l k = 0 := by omega
            refine skip ?_
            show Code.wp _ _ _ _ _
            refine seq ?_
            refine region_mix (fun w => StX [] w0 w [it, blk b13 [.int .i64 V, .slice a1 n1 c1] 87, blk b14 [.int .i64 f1, .int .i64 f2, .int .i64 f3, .int .i64 f4, .slice a2 n2 c2] 172, packI Hs, blk b4 [.int .i64 (stN b s l k).volume, vk] 87, blk b3 [.slice ar b.rows.length cr, .int .i64 b.leak, .int .i64 b.crest, .int .i64 b.over, .slice ap b.pols.length cp] 85]) 10 mixed hS ?_
            clear hS; intro w hS
            refine f_step 0 (by kernel_rfl) rfl (fun c a a' w h => by obtain ⟨_, v, hv, _⟩ := h; cases hv) (by first | exact hS.sub (.cons _ (.cons _ (List.Sublist.refl _))) | exact hS.sub (.cons _ (.cons _ (.cons _ (List.Sublist.refl _)))) | exact hS.sub (.cons _ (.cons _ (.cons _ (.cons _ (List.Sublist.refl _)))))) (fun w hS => (yMove h10)) ?_
            refine f_step 1 (by kernel_rfl) rfl (fun c a a' w h => by obtain ⟨_, v, hv, _⟩ := h; cases hv) (by first | exact hS.sub (.cons _ (.cons _ (List.Sublist.refl _))) | exact hS.sub (.cons _ (.cons _ (.cons _ (List.Sublist.refl _)))) | exact hS.sub (.cons _ (.cons _ (.cons _ (.cons _ (List.Sublist.refl _)))))) (fun w hS => (yLdBA h13 Tryz.isAgg87 Tryz.sizeOf87 (hS.at _) rfl rfl)) ?_
            refine f_step 4 (by kernel_rfl) rfl (fun c a a' w h => by obtain ⟨_, v, hv, _⟩ := h; cases hv) (by first | exact hS.sub (.cons _ (.cons _ (List.Sublist.refl _))) | exact hS.sub (.cons _ (.cons _ (.cons _ (List.Sublist.refl _)))) | exact hS.sub (.cons _ (.cons _ (.cons _ (.cons _ (List.Sublist.refl _)))))) (fun w hS => (yMove h11)) ?_
            refine f_step 5 (by kernel_rfl) rfl (fun c a a' w h => by obtain ⟨_, v, hv, _⟩ := h; cases hv) (by first | exact hS.sub (.cons _ (.cons _ (List.Sublist.refl _))) | exact hS.sub (.cons _ (.cons _ (.cons _ (List.Sublist.refl _)))) | exact hS.sub (.cons _ (.cons _ (.cons _ (.cons _ (List.Sublist.refl _)))))) (fun w hS => (yLdBA h14 Tryz.isAgg172 Tryz.sizeOf172 (hS.at _) rfl rfl)) ?_
            show wpA _ _ _ _ _ _ _ _ _ _
            refine a_step (i := 2) (is := [6]) (by kernel_rfl) ⟨?_, ?_, trivial⟩
            ·
              refine ⟨_, rfl, ?_⟩
              refine sbslice hS Tryz.underlying206 Tryz.sizeOf87 rfl Tryz.zeroValue87 rfl (.cons rfl rfl .nil) rfl ?_; clear hS; intro b51 w hS
              refine nil ?_
              refine ⟨fun _ => (by first | exact hS.sub (.cons _ (.cons _ (List.Sublist.refl _))) | exact hS.sub (.cons _ (.cons _ (.cons _ (List.Sublist.refl _)))) | exact hS.sub (.cons _ (.cons _ (.cons _ (.cons _ (List.Sublist.refl _)))))), ?_⟩
              show wpA _ _ _ _ _ _ _ _ _ _
              show wpA _ _ _ _ _ _ _ _ _ _
              refine a_step (i := 3) (is := [6]) (by kernel_rfl) ⟨?_, ?_, trivial⟩
              ·
                refine ⟨_, rfl, ?_⟩
                refine sapp (bytes := 32) (size := 2) (v := v1) (m := 1) hS rfl rfl Tryz.underlying206 ti87 rfl rfl rfl rfl (by decide) (blk_cells (hS.at _)) rfl rfl (by omega) (by omega) ?_; clear hS; intro v52 w hS
                refine nil ?_
                refine ⟨fun _ => (by first | exact hS.sub (.cons _ (.cons _ (List.Sublist.refl _))) | exact hS.sub (.cons _ (.cons _ (.cons _ (List.Sublist.refl _)))) | exact hS.sub (.cons _ (.cons _ (.cons _ (.cons _ (List.Sublist.refl _)))))), ?_⟩
                show wpA _ _ _ _ _ _ _ _ _ _
                show wpA _ _ _ _ _ _ _ _ _ _
                refine a_step (i := 6) (is := []) (by kernel_rfl) ⟨?_, trivial⟩
                refine ⟨_, rfl, ?_⟩
                refine sbslice hS Tryz.underlying207 Tryz.sizeOf172 rfl Tryz.zeroValue172 rfl (.cons rfl rfl .nil) rfl ?_; clear hS; intro b55 w hS
                refine nil ?_
                refine ⟨fun _ => (by first | exact hS.sub (.cons _ (.cons _ (List.Sublist.refl _))) | exact hS.sub (.cons _ (.cons _ (.cons _ (List.Sublist.refl _)))) | exact hS.sub (.cons _ (.cons _ (.cons _ (.cons _ (List.Sublist.refl _)))))), ?_⟩
                show wpA _ _ _ _ _ _ _ _ _ _
                show wpA _ _ _ _ _ _ _ _ _ _
                refine a_step (i := 7) (is := []) (by kernel_rfl) ⟨?_, trivial⟩
                refine ⟨_, rfl, ?_⟩
                refine sapp (bytes := 56) (size := 5) (v := v2) (m := 1) hS rfl rfl Tryz.underlying207 ti172 rfl rfl rfl rfl (by decide) (blk_cells (hS.at _)) rfl rfl (by omega) (by omega) ?_; clear hS; intro v56 w hS
                refine nil ?_
                refine ⟨fun _ => (by first | exact hS.sub (.cons _ (.cons _ (List.Sublist.refl _))) | exact hS.sub (.cons _ (.cons _ (.cons _ (List.Sublist.refl _)))) | exact hS.sub (.cons _ (.cons _ (.cons _ (.cons _ (List.Sublist.refl _)))))), ?_⟩
                show wpA _ _ _ _ _ _ _ _ _ _
                refine f_step 8 (by kernel_rfl) rfl (fun c a a' w h => by obtain ⟨_, v, hv, _⟩ := h; cases hv) (by first | exact hS.sub (.cons _ (.cons _ (List.Sublist.refl _))) | exact hS.sub (.cons _ (.cons _ (.cons _ (List.Sublist.refl _)))) | exact hS.sub (.cons _ (.cons _ (.cons _ (.cons _ (List.Sublist.refl _)))))) (fun w hS => (yAsg rfl)) ?_
                refine f_step 9 (by kernel_rfl) rfl (fun c a a' w h => by obtain ⟨_, v, hv, _⟩ := h; cases hv) (by first | exact hS.sub (.cons _ (.cons _ (List.Sublist.refl _))) | exact hS.sub (.cons _ (.cons _ (.cons _ (List.Sublist.refl _)))) | exact hS.sub (.cons _ (.cons _ (.cons _ (.cons _ (List.Sublist.refl _)))))) (fun w hS => (yAsg rfl)) ?_
                refine a_end (by kernel_rfl) ?_
                replace hS := hS.sub (.cons _ (.cons _ (List.Sublist.refl _)))
                show Code.wp _ _ _ _ _
                refine region ?_
                refine sv (yLdBA h13 Tryz.isAgg87 Tryz.sizeOf87 (hS.at _) rfl rfl) ?_
                refine sst hS h4 rfl Tryz.sizeOf87 rfl rfl rfl rfl ?_; clear hS; intro w hS
                refine nil ?_
                show Code.wp _ _ _ _ _
                refine region ?_
                refine sv (yMove h12) ?_
                refine sv (yAdd rfl rfl ⟨by omega, by omega⟩) ?_
                refine sv (yAsg rfl) ?_
                refine nil ?_
                obtain ⟨rfl, hit2⟩ := hit he0
                exact ⟨_, _, rfl, ⟨k + 1, _, _, .slice a1 n1 c1, _, css2 ++ [[.int .i64 f1, .int .i64 f2, .int .i64 f3, .int .i64 f4, .slice a2 n2 c2]], Hs ++ [it], h2, h3, h4, rfl, rfl, rfl, (by rw [List.flatten_append]; exact ((((((hS.sub (.cons_cons _ (.cons_cons _ (.cons_cons _ (.cons _ (.cons _ (List.Sublist.refl _)))))))).front (A := [_])).front (A := [_])).front (A := [_, _, _])).front (A := [_, _, _])).packs |> fun h => ((((h).front (A := [])).front (A := [_, _])).front (A := [_, _])).sub (.cons_cons _ (.cons_cons _ (.cons_cons _ (List.Sublist.refl _))))), (by omega), (snoc hen he0), (fun w e hh => (hit2 w (hh _ (by simp))).1), (fun w hh => by rw [flsL_succ]; exact (hqf w (fun i hi => hh i (List.mem_append_left _ hi))).snoc rfl (hit2 w (hh _ (by simp))).2), rfl⟩, by omega⟩
              ·
                refine ⟨_, rfl, ?_⟩
                refine sbslice hS Tryz.underlying207 Tryz.sizeOf172 rfl Tryz.zeroValue172 rfl (.cons rfl rfl .nil) rfl ?_; clear hS; intro b55 w hS
                refine nil ?_
                refine ⟨fun _ => (by first | exact hS.sub (.cons _ (.cons _ (List.Sublist.refl _))) | exact hS.sub (.cons _ (.cons _ (.cons _ (List.Sublist.refl _)))) | exact hS.sub (.cons _ (.cons _ (.cons _ (.cons _ (List.Sublist.refl _)))))), ?_⟩
                show wpA _ _ _ _ _ _ _ _ _ _
                show wpA _ _ _ _ _ _ _ _ _ _
                refine a_step (i := 3) (is := []) (by kernel_rfl) ⟨?_, trivial⟩
                refine ⟨_, rfl, ?_⟩
                refine sapp (bytes := 32) (size := 2) (v := v1) (m := 1) hS rfl rfl Tryz.underlying206 ti87 rfl rfl rfl rfl (by decide) (blk_cells (hS.at _)) rfl rfl (by omega) (by omega) ?_; clear hS; intro v52 w hS
                refine nil ?_
                refine ⟨fun _ => (by first | exact hS.sub (.cons _ (.cons _ (List.Sublist.refl _))) | exact hS.sub (.cons _ (.cons _ (.cons _ (List.Sublist.refl _)))) | exact hS.sub (.cons _ (.cons _ (.cons _ (.cons _ (List.Sublist.refl _)))))), ?_⟩
                show wpA _ _ _ _ _ _ _ _ _ _
                show wpA _ _ _ _ _ _ _ _ _ _
                refine a_step (i := 7) (is := []) (by kernel_rfl) ⟨?_, trivial⟩
                refine ⟨_, rfl, ?_⟩
                refine sapp (bytes := 56) (size := 5) (v := v2) (m := 1) hS rfl rfl Tryz.underlying207 ti172 rfl rfl rfl rfl (by decide) (blk_cells (hS.at _)) rfl rfl (by omega) (by omega) ?_; clear hS; intro v56 w hS
                refine nil ?_
                refine ⟨fun _ => (by first | exact hS.sub (.cons _ (.cons _ (List.Sublist.refl _))) | exact hS.sub (.cons _ (.cons _ (.cons _ (List.Sublist.refl _)))) | exact hS.sub (.cons _ (.cons _ (.cons _ (.cons _ (List.Sublist.refl _)))))), ?_⟩
                show wpA _ _ _ _ _ _ _ _ _ _
                refine f_step 8 (by kernel_rfl) rfl (fun c a a' w h => by obtain ⟨_, v, hv, _⟩ := h; cases hv) (by first | exact hS.sub (.cons _ (.cons _ (List.Sublist.refl _))) | exact hS.sub (.cons _ (.cons _ (.cons _ (List.Sublist.refl _)))) | exact hS.sub (.cons _ (.cons _ (.cons _ (.cons _ (List.Sublist.refl _)))))) (fun w hS => (yAsg rfl)) ?_
                refine f_step 9 (by kernel_rfl) rfl (fun c a a' w h => by obtain ⟨_, v, hv, _⟩ := h; cases hv) (by first | exact hS.sub (.cons _ (.cons _ (List.Sublist.refl _))) | exact hS.sub (.cons _ (.cons _ (.cons _ (List.Sublist.refl _)))) | exact hS.sub (.cons _ (.cons _ (.cons _ (.cons _ (List.Sublist.refl _)))))) (fun w hS => (yAsg rfl)) ?_
                refine a_end (by kernel_rfl) ?_
                replace hS := hS.sub (.cons _ (.cons _ (List.Sublist.refl _)))
                show Code.wp _ _ _ _ _
                refine region ?_
                refine sv (yLdBA h13 Tryz.isAgg87 Tryz.sizeOf87 (hS.at _) rfl rfl) ?_
                refine sst hS h4 rfl Tryz.sizeOf87 rfl rfl rfl rfl ?_; clear hS; intro w hS
                refine nil ?_
                show Code.wp _ _ _ _ _
                refine region ?_
                refine sv (yMove h12) ?_
                refine sv (yAdd rfl rfl ⟨by omega, by omega⟩) ?_
                refine sv (yAsg rfl) ?_
                refine nil ?_
                obtain ⟨rfl, hit2⟩ := hit he0
                exact ⟨_, _, rfl, ⟨k + 1, _, _, .slice a1 n1 c1, _, css2 ++ [[.int .i64 f1, .int .i64 f2, .int .i64 f3, .int .i64 f4, .slice a2 n2 c2]], Hs ++ [it], h2, h3, h4, rfl, rfl, rfl, (by rw [List.flatten_append]; exact ((((((hS.sub (.cons_cons _ (.cons_cons _ (.cons_cons _ (.cons _ (.cons _ (List.Sublist.refl _)))))))).front (A := [_])).front (A := [_])).front (A := [_, _, _])).front (A := [_, _, _])).packs |> fun h => ((((h).front (A := [])).front (A := [_, _])).front (A := [_, _])).sub (.cons_cons _ (.cons_cons _ (.cons_cons _ (List.Sublist.refl _))))), (by omega), (snoc hen he0), (fun w e hh => (hit2 w (hh _ (by simp))).1), (fun w hh => by rw [flsL_succ]; exact (hqf w (fun i hi => hh i (List.mem_append_left _ hi))).snoc rfl (hit2 w (hh _ (by simp))).2), rfl⟩, by omega⟩
            ·
              refine ⟨_, rfl, ?_⟩
              refine sbslice hS Tryz.underlying207 Tryz.sizeOf172 rfl Tryz.zeroValue172 rfl (.cons rfl rfl .nil) rfl ?_; clear hS; intro b55 w hS
              refine nil ?_
              refine ⟨fun _ => (by first | exact hS.sub (.cons _ (.cons _ (List.Sublist.refl _))) | exact hS.sub (.cons _ (.cons _ (.cons _ (List.Sublist.refl _)))) | exact hS.sub (.cons _ (.cons _ (.cons _ (.cons _ (List.Sublist.refl _)))))), ?_⟩
              show wpA _ _ _ _ _ _ _ _ _ _
              show wpA _ _ _ _ _ _ _ _ _ _
              refine a_step (i := 2) (is := []) (by kernel_rfl) ⟨?_, trivial⟩
              refine ⟨_, rfl, ?_⟩
              refine sbslice hS Tryz.underlying206 Tryz.sizeOf87 rfl Tryz.zeroValue87 rfl (.cons rfl rfl .nil) rfl ?_; clear hS; intro b51 w hS
              refine nil ?_
              refine ⟨fun _ => (by first | exact hS.sub (.cons _ (.cons _ (List.Sublist.refl _))) | exact hS.sub (.cons _ (.cons _ (.cons _ (List.Sublist.refl _)))) | exact hS.sub (.cons _ (.cons _ (.cons _ (.cons _ (List.Sublist.refl _)))))), ?_⟩
              show wpA _ _ _ _ _ _ _ _ _ _
              show wpA _ _ _ _ _ _ _ _ _ _
              refine a_step (i := 3) (is := []) (by kernel_rfl) ⟨?_, trivial⟩
              refine ⟨_, rfl, ?_⟩
              refine sapp (bytes := 32) (size := 2) (v := v1) (m := 1) hS rfl rfl Tryz.underlying206 ti87 rfl rfl rfl rfl (by decide) (blk_cells (hS.at _)) rfl rfl (by omega) (by omega) ?_; clear hS; intro v52 w hS
              refine nil ?_
              refine ⟨fun _ => (by first | exact hS.sub (.cons _ (.cons _ (List.Sublist.refl _))) | exact hS.sub (.cons _ (.cons _ (.cons _ (List.Sublist.refl _)))) | exact hS.sub (.cons _ (.cons _ (.cons _ (.cons _ (List.Sublist.refl _)))))), ?_⟩
              show wpA _ _ _ _ _ _ _ _ _ _
              show wpA _ _ _ _ _ _ _ _ _ _
              refine a_step (i := 7) (is := []) (by kernel_rfl) ⟨?_, trivial⟩
              refine ⟨_, rfl, ?_⟩
              refine sapp (bytes := 56) (size := 5) (v := v2) (m := 1) hS rfl rfl Tryz.underlying207 ti172 rfl rfl rfl rfl (by decide) (blk_cells (hS.at _)) rfl rfl (by omega) (by omega) ?_; clear hS; intro v56 w hS
              refine nil ?_
              refine ⟨fun _ => (by first | exact hS.sub (.cons _ (.cons _ (List.Sublist.refl _))) | exact hS.sub (.cons _ (.cons _ (.cons _ (List.Sublist.refl _)))) | exact hS.sub (.cons _ (.cons _ (.cons _ (.cons _ (List.Sublist.refl _)))))), ?_⟩
              show wpA _ _ _ _ _ _ _ _ _ _
              refine f_step 8 (by kernel_rfl) rfl (fun c a a' w h => by obtain ⟨_, v, hv, _⟩ := h; cases hv) (by first | exact hS.sub (.cons _ (.cons _ (List.Sublist.refl _))) | exact hS.sub (.cons _ (.cons _ (.cons _ (List.Sublist.refl _)))) | exact hS.sub (.cons _ (.cons _ (.cons _ (.cons _ (List.Sublist.refl _)))))) (fun w hS => (yAsg rfl)) ?_
              refine f_step 9 (by kernel_rfl) rfl (fun c a a' w h => by obtain ⟨_, v, hv, _⟩ := h; cases hv) (by first | exact hS.sub (.cons _ (.cons _ (List.Sublist.refl _))) | exact hS.sub (.cons _ (.cons _ (.cons _ (List.Sublist.refl _)))) | exact hS.sub (.cons _ (.cons _ (.cons _ (.cons _ (List.Sublist.refl _)))))) (fun w hS => (yAsg rfl)) ?_
              refine a_end (by kernel_rfl) ?_
              replace hS := hS.sub (.cons _ (.cons _ (List.Sublist.refl _)))
              show Code.wp _ _ _ _ _
              refine region ?_
              refine sv (yLdBA h13 Tryz.isAgg87 Tryz.sizeOf87 (hS.at _) rfl rfl) ?_
              refine sst hS h4 rfl Tryz.sizeOf87 rfl rfl rfl rfl ?_; clear hS; intro w hS
              refine nil ?_
              show Code.wp _ _ _ _ _
              refine region ?_
              refine sv (yMove h12) ?_
              refine sv (yAdd rfl rfl ⟨by omega, by omega⟩) ?_
              refine sv (yAsg rfl) ?_
              refine nil ?_
              obtain ⟨rfl, hit2⟩ := hit he0
              exact ⟨_, _, rfl, ⟨k + 1, _, _, .slice a1 n1 c1, _, css2 ++ [[.int .i64 f1, .int .i64 f2, .int .i64 f3, .int .i64 f4, .slice a2 n2 c2]], Hs ++ [it], h2, h3, h4, rfl, rfl, rfl, (by rw [List.flatten_append]; exact ((((((hS.sub (.cons_cons _ (.cons_cons _ (.cons_cons _ (.cons _ (.cons _ (List.Sublist.refl _)))))))).front (A := [_])).front (A := [_])).front (A := [_, _, _])).front (A := [_, _, _])).packs |> fun h => ((((h).front (A := [])).front (A := [_, _])).front (A := [_, _])).sub (.cons_cons _ (.cons_cons _ (.cons_cons _ (List.Sublist.refl _))))), (by omega), (snoc hen he0), (fun w e hh => (hit2 w (hh _ (by simp))).1), (fun w hh => by rw [flsL_succ]; exact (hqf w (fun i hi => hh i (List.mem_append_left _ hi))).snoc rfl (hit2 w (hh _ (by simp))).2), rfl⟩, by omega⟩
      ·
        simp only [BS, ne_eq] at c32
        obtain rfl : k = l.length := by omega
        obtain ⟨av1, cv1, rfl⟩ := row_shape (hS.row v1)
        obtain ⟨av2, cv2, rfl⟩ := row_shape (hS.row v2)
        refine exit ?_
        show Code.wp _ _ _ _ _
        refine seq ?_
        refine region ?_
        refine sv (yMove h10) ?_
        refine sv (yMove h11) ?_
        refine sv (yAsg rfl) ?_
        refine sv (yAsg rfl) ?_
        refine sv (yAsg rfl) ?_
        refine nil ?_
        show Code.wp _ _ _ _ _
        refine wp_ret ?_
        refine retQ (res3 rfl rfl rfl rfl) ?_
        exact .inr ⟨run_all hre hen, _, _, packI [rowI (.slice av2 l.length cv2) 172 5 l.length css2.flatten, packI Hs], rfl, fun w hh => sl_of_row (hh _ (List.mem_cons_self ..)) (hqf w (fun i hi => hh (packI Hs) (by simp) i hi)) (flsL_len ..), StX.pack (M := [rowI (.slice av2 l.length cv2) 172 5 l.length css2.flatten, packI Hs]) (L := []) (hS.sub (.cons _ (.cons_cons _ (.cons_cons _ (List.nil_sublist _)))))⟩
set_option maxHeartbeats 1000000 in
/-- barrage/barrageref04.Floods -/
theorem c_Floods4 {b : Bas} {s : BSt} {l : List BTk} {cs qs : List Value} {lv : Value} {w0 : World} (h : RBas w0 cs b) (hsq : RBst w0 qs s) (hl : Sl w0 3 RBtk lv l) : CE Tryz.prog 98 #[.agg cs.toArray, .agg qs.toArray, lv] w0 (fun u w' => ∃ v m zs, u = .tuple #[v, .int .i64 (runE b s l)] ∧ (runE b s l = 0 → m = b.pols.length ∧ zs = floodsF b s l) ∧ St w0 w' [rowI v 3 1 m (zs.flatMap Bx.encI)]) := by
  obtain ⟨rv, pv, rfl, hsr, hlk, hcr, hov, hsp⟩ := id h
  obtain ⟨ar, cr, rfl, hrcap, hrmx, hrel⟩ := id hsr
  obtain ⟨ap, cp, rfl, hpcap, hpmx, hpel⟩ := id hsp
  obtain ⟨fv, rfl, hsv, hsf, hsm⟩ := id hsq
  obtain ⟨af, cf, rfl, hfcap, hfmx, hfel⟩ := id hsf
  obtain ⟨al, cl, rfl, hlcap, hlmx, hlel⟩ := id hl
  refine enter Tryz.func98 rfl Tryz.ntmps98 rfl ?_
  have hS := St.start w0
  refine seq ?_
  refine region ?_
  refine sbox hS rfl rfl ?_; clear hS; intro b3 w hS
  refine sbox hS rfl rfl ?_; clear hS; intro b4 w hS
  refine sv (yAsg rfl) ?_
  refine sv (yAsg rfl) ?_
  refine nil ?_
  show Code.wp _ _ _ _ _
  refine seq ?_
  refine region ?_
  refine sv (yLdBA rfl Tryz.isAgg85 Tryz.sizeOf85 (hS.at _) rfl rfl) ?_
  refine sv (yLdBA rfl Tryz.isAgg87 Tryz.sizeOf87 (hS.at _) rfl rfl) ?_
  refine sv (yMove rfl) ?_
  refine scall Tryz.call129 (.cons rfl (.cons rfl (.cons rfl .nil))) (c_Run4 (h.ext hS.ext) (hsq.ext hS.ext) (hl.ext RBtk.stays hS.ext)) ?_
  rintro _ w (⟨hne, rfl, hM⟩ | ⟨h0, v1, v2, it, rfl, hit, hM⟩)
  ·
    replace hS := hS.step hM; clear hM
    refine sv (yMove rfl) ?_
    refine sv (yExt rfl rfl) ?_
    refine sv (yExt rfl rfl) ?_
    refine sv (yExt rfl rfl) ?_
    refine sv (yAsg rfl) ?_
    refine sv (yAsg rfl) ?_
    refine sv (yAsg rfl) ?_
    refine nil ?_
    show Code.wp _ _ _ _ _
    refine seq ?_
    refine seq ?_
    refine region ?_
    refine sv (yMove rfl) ?_
    refine sv (yNeq rfl rfl) ?_
    refine nil ?_
    show Code.wp _ _ _ _ _
    refine cond rfl (fun c24 => ?_) (fun c24 => ?_)
    ·
      simp only [BS, ne_eq] at c24
      refine seq ?_
      refine region ?_
      refine sv (yMove rfl) ?_
      refine sv (yAsg rfl) ?_
      refine sv (yAsg rfl) ?_
      refine nil ?_
      show Code.wp _ _ _ _ _
      refine wp_ret (thenR ?_)
      refine retQ (res2 rfl rfl rfl) ?_
      exact ⟨_, 0, [], rfl, fun k => absurd k hne, (hS.nilrow 3 1).sub (.cons_cons _ (List.nil_sublist _))⟩
    ·
      simp only [BS, ne_eq] at c24
      exact absurd c24 hne
  ·
    replace hS := hS.call1 hM; clear hM
    obtain ⟨hok, hso, hln, -⟩ := run_ok h0
    have hnp := hok.npol
    obtain ⟨av2, cv2, rfl, -⟩ := id (hit w (hS.ok it (by simp)))
    rw [flsL_len] at *
    refine sv (yMove rfl) ?_
    refine sv (yExt rfl rfl) ?_
    refine sv (yExt rfl rfl) ?_
    refine sv (yExt rfl rfl) ?_
    refine sv (yAsg rfl) ?_
    refine sv (yAsg rfl) ?_
    refine sv (yAsg rfl) ?_
    refine nil ?_
    show Code.wp _ _ _ _ _
    refine seq ?_
    refine seq ?_
    refine region ?_
    refine sv (yMove rfl) ?_
    refine sv (yNeq rfl rfl) ?_
    refine nil ?_
    show Code.wp _ _ _ _ _
    refine cond rfl (fun c24 => ?_) (fun c24 => ?_)
    ·
      exact absurd c24 (by decide)
    ·
      refine skip ?_
      show Code.wp _ _ _ _ _
      refine seq ?_
      refine region ?_
      refine sv (yAsg rfl) ?_
      refine nil ?_
      show Code.wp _ _ _ _ _
      refine seq ?_
      refine seq ?_
      refine region ?_
      refine sv (yAsg rfl) ?_
      refine nil ?_
      show Code.wp _ _ _ _ _
      refine block ?_
      refine loop (fun f w zz => ∃ (k : Nat) (fv : Value), f 3 = .pointer (some ⟨b3, 0, none⟩) ∧ f 9 = .slice av2 l.length cv2 ∧ f 11 = fv ∧ f 12 = .int .i64 (k : Int) ∧ StX [] w0 w ((rowI (fv) 3 1 k (((List.range k).map (firstFl b s l)).flatMap Bx.encI) :: it :: blk b4 [.int .i64 s.volume, .slice af s.filled.length cf] 87 :: blk b3 [.slice ar b.rows.length cr, .int .i64 b.leak, .int .i64 b.crest, .int .i64 b.over, .slice ap b.pols.length cp] 85 :: [])) ∧ (k ≤ b.pols.length) ∧ zz = b.pols.length - k) _ ⟨_, rfl, 0, _, rfl, rfl, rfl, rfl, (hS.nilrow 3 1), (Nat.zero_le _), rfl⟩ ?_
      clear hS
      rintro f w _ ⟨k, fv, h3, h9, h11, h12, hS, hk, rfl⟩
      refine seq ?_
      refine seq ?_
      refine region ?_
      refine sv (yMove h12) ?_
      refine sv (fa85_4 h3) ?_
      refine sv (yLdB rfl Tryz.isAgg83 (hS.at _) rfl) ?_
      refine sv (yLen rfl Tryz.underlying83) ?_
      refine sv (yLss rfl rfl) ?_
      refine nil ?_
      show Code.wp _ _ _ _ _
      refine cond rfl (fun c30 => ?_) (fun c30 => ?_)
      ·
        simp only [BS, ne_eq] at c30
        refine skip ?_
        show Code.wp _ _ _ _ _
        refine seq ?_
        refine block ?_
        refine seq ?_
        refine region ?_
        refine sv (yAsg rfl) ?_
        refine nil ?_
        show Code.wp _ _ _ _ _
        refine seq ?_
        refine seq ?_
        refine region ?_
        refine sv (yMove h9) ?_
        refine sv (yLen rfl Tryz.underlying207) ?_
        refine sv (ySub rfl rfl ⟨by omega, by omega⟩) ?_
        refine sv (yAsg rfl) ?_
        refine nil ?_
        show Code.wp _ _ _ _ _
        refine block ?_
        refine loop (fun f w zz => ∃ (m : Nat), f 3 = .pointer (some ⟨b3, 0, none⟩) ∧ f 9 = .slice av2 l.length cv2 ∧ f 11 = fv ∧ f 12 = .int .i64 (k : Int) ∧ f 13 = .int .i64 (lowF (fun q => decide (0 < flB (flN b s l q).taken k)) l.length m) ∧ f 14 = .int .i64 ((l.length : Int) - 1 - (m : Int)) ∧ StX [] w0 w ((rowI (fv) 3 1 k (((List.range k).map (firstFl b s l)).flatMap Bx.encI) :: it :: blk b4 [.int .i64 s.volume, .slice af s.filled.length cf] 87 :: blk b3 [.slice ar b.rows.length cr, .int .i64 b.leak, .int .i64 b.crest, .int .i64 b.over, .slice ap b.pols.length cp] 85 :: [])) ∧ (m ≤ l.length) ∧ zz = l.length - m) _ ⟨_, rfl, 0, h3, h9, h11, h12, rfl, (rfl.trans (congrArg (Value.int .i64) (by omega))), hS, (Nat.zero_le _), rfl⟩ ?_
        clear hS
        rintro f w _ ⟨m, h3, h9, h11, h12, h13, h14, hS, hm, rfl⟩
        refine seq ?_
        refine seq ?_
        refine region ?_
        refine sv (yMove h14) ?_
        refine sv (yGeq rfl rfl) ?_
        refine nil ?_
        show Code.wp _ _ _ _ _
        refine cond rfl (fun c37 => ?_) (fun c37 => ?_)
        ·
          simp only [BS, ne_eq] at c37
          have hml : m < l.length := by omega
          obtain ⟨bx, ox, cx, hax, hlx, hcx, hRx, -⟩ := sl_at (hit w (hS.ok it (by simp))) (flsL_get (b := b) (s := s) (show l.length - 1 - m < l.length by omega))
          obtain ⟨tv, rfl, hts⟩ := hRx
          obtain ⟨at3, ct3, rfl, -⟩ := id hts
          obtain ⟨by3, oy3, cy3, hay, hly, hcy, hRy, -⟩ := sl_at hts (flB_get (show k < (flN b s l (l.length - 1 - m)).taken.length by rw [flN_taken]; omega))
          obtain ⟨rfl, -⟩ := hRy
          have htl := flN_taken b s l (l.length - 1 - m)
          refine skip ?_
          show Code.wp _ _ _ _ _
          refine seq ?_
          refine block ?_
          refine seq ?_
          refine region ?_
          refine sv (yMove h9) ?_
          refine sv (yMove h14) ?_
          refine sv (yIxa rfl hax (rfl.trans (congrArg (Value.int .i64) (show (l.length : Int) - 1 - (m : Int) = ((l.length - 1 - m : Nat) : Int) by omega))) Tryz.runUnderlying207 Tryz.sizeOf172 (by omega) (by omega)) ?_
          refine sv (fa172_4 rfl) ?_
          refine sv (yLd rfl Tryz.isAgg34 (hcx.at (j := 4) rfl)) ?_
          refine sv (yMove h12) ?_
          refine sv (yIxa rfl hay rfl Tryz.runUnderlying34 Tryz.sizeOf3 (by omega) (by omega)) ?_
          refine sv (yLd rfl Tryz.isAgg3 (hcy.one)) ?_
          refine sv (yGtr rfl rfl) ?_
          refine nil ?_
          show Code.wp _ _ _ _ _
          refine cond rfl (fun c48 => ?_) (fun c48 => ?_)
          ·
            simp only [BS, ne_eq] at c48
            refine region ?_
            refine sv (yMove h14) ?_
            refine sv (yAsg rfl) ?_
            refine nil ?_
            show Code.wp _ _ _ _ _
            refine region ?_
            refine sv (yMove h14) ?_
            refine sv (ySub rfl rfl ⟨by omega, by omega⟩) ?_
            refine sv (yAsg rfl) ?_
            refine nil ?_
            exact ⟨_, _, rfl, ⟨m + 1, h3, h9, h11, h12, (rfl.trans (congrArg (Value.int .i64) (by rw [lowF_y (p := (fun q => decide (0 < flB (flN b s l q).taken k))) (decide_eq_true c48)]; omega))), (rfl.trans (congrArg (Value.int .i64) (by omega))), hS, (by omega), rfl⟩, by omega⟩
          ·
            simp only [BS, ne_eq] at c48
            refine skip ?_
            show Code.wp _ _ _ _ _
            refine region ?_
            refine sv (yMove h14) ?_
            refine sv (ySub rfl rfl ⟨by omega, by omega⟩) ?_
            refine sv (yAsg rfl) ?_
            refine nil ?_
            exact ⟨_, _, rfl, ⟨m + 1, h3, h9, h11, h12, (h13.trans (congrArg (Value.int .i64) (lowF_n (p := (fun q => decide (0 < flB (flN b s l q).taken k))) (by simpa using c48)).symm)), (rfl.trans (congrArg (Value.int .i64) (by omega))), hS, (by omega), rfl⟩, by omega⟩
        ·
          simp only [BS, ne_eq] at c37
          obtain rfl : m = l.length := by omega
          rw [lowF_first] at h13
          refine exit ?_
          show Code.wp _ _ _ _ _
          refine region ?_
          refine sv (yMove h11) ?_
          refine sv (yMove h13) ?_
          refine sbslice hS Tryz.underlying34 Tryz.sizeOf3 rfl Tryz.zeroValue3 rfl (.cons rfl rfl .nil) rfl ?_; clear hS; intro b52 w hS
          refine sapp (bytes := 8) (size := 1) (v := fv) (m := 1) hS rfl rfl Tryz.underlying34 ti3 rfl rfl rfl rfl (by decide) (blk_cells (hS.at _)) rfl rfl (by omega) (by omega) ?_; clear hS; intro v53 w hS
          refine sv (yAsg rfl) ?_
          refine nil ?_
          show Code.wp _ _ _ _ _
          refine region ?_
          refine sv (yMove h12) ?_
          refine sv (yAdd rfl rfl ⟨by omega, by omega⟩) ?_
          refine sv (yAsg rfl) ?_
          refine nil ?_
          exact ⟨_, _, rfl, ⟨k + 1, _, h3, h9, rfl, rfl, (by rw [List.range_succ, List.map_append, List.flatMap_append]; exact hS.sub (.cons _ (List.Sublist.refl _))), (by omega), rfl⟩, by omega⟩
      ·
        simp only [BS, ne_eq] at c30
        refine exit ?_
        show Code.wp _ _ _ _ _
        refine seq ?_
        refine region ?_
        refine sv (yMove h11) ?_
        refine sv (yAsg rfl) ?_
        refine sv (yAsg rfl) ?_
        refine nil ?_
        show Code.wp _ _ _ _ _
        refine wp_ret ?_
        refine retQ (res2 rfl rfl rfl) ?_
        obtain rfl : k = b.pols.length := by omega
        exact ⟨fv, _, _, by rw [h0]; rfl, fun _ => ⟨rfl, rfl⟩, hS.sub (.cons_cons _ (List.nil_sublist _))⟩
end Go.Proofs.YtmoilbakmlekbaaGreatDoor

/- part Aw64 -/
namespace Go.Proofs.YtmoilbakmlekbaaGreatDoor
open Go Bx
set_option maxHeartbeats 4000000 in
/-- barrage/barrageref11.From -/
theorem c_rFrom {b : Bas} {s : BSt} {hs : List (List BTk)} {frm : Int} {cs qs : List Value} {hv : Value} {w0 : World} (h : RBas w0 cs b) (hsq : RBst w0 qs s) (hh : Sl w0 1 RTks hv hs) : CE Tryz.prog 45 #[.agg cs.toArray, .agg qs.toArray, .int .i64 frm, hv] w0 (fun u w' => ∃ lv, u = .tuple #[lv, .int .i64 (fromR b s frm hs).2] ∧ Sl w' 1 RRow lv (fromR b s frm hs).1 ∧ Ext w0 w') := by
  obtain ⟨rv, pv, rfl, hsr, hlk, hcr, hov, hsp⟩ := id h
  obtain ⟨ar, cr, rfl, hrcap, hrmx, hrel⟩ := id hsr
  obtain ⟨ap, cp, rfl, hpcap, hpmx, hpel⟩ := id hsp
  obtain ⟨fv, rfl, hsv, hsf, hsm⟩ := id hsq
  obtain ⟨af, cf, rfl, hfcap, hfmx, hfel⟩ := id hsf
  obtain ⟨ah, ch, rfl, hhcap, hhmx, hhel⟩ := id hh
  refine enter Tryz.func45 rfl Tryz.ntmps45 rfl ?_
  have hS := St.start w0
  refine seq ?_
  refine region ?_
  refine sbox hS rfl rfl ?_; clear hS; intro b4 w hS
  refine sbox hS rfl rfl ?_; clear hS; intro b5 w hS
  refine sv (yAsg rfl) ?_
  refine sv (yAsg rfl) ?_
  refine nil ?_
  show Code.wp _ _ _ _ _
  refine seq ?_
  refine region ?_
  refine sv (yLdBA rfl Tryz.isAgg85 Tryz.sizeOf85 (hS.at _) rfl rfl) ?_
  refine sv (yLdBA rfl Tryz.isAgg87 Tryz.sizeOf87 (hS.at _) rfl rfl) ?_
  refine scall Tryz.call97 (.cons rfl (.cons rfl .nil)) (c_CheckState4 (h.ext hS.ext) (hsq.ext hS.ext)) ?_
  rintro _ w ⟨rfl, hE⟩; replace hS := hS.step hE; clear hE
  refine sv (yAsg rfl) ?_
  refine nil ?_
  show Code.wp _ _ _ _ _
  refine seqJ (n := 108) (fun f w => ∃ (e : Int), f 2 = .int .i64 frm ∧ f 3 = .slice ah hs.length ch ∧ f 4 = .pointer (some ⟨b4, 0, none⟩) ∧ f 5 = .pointer (some ⟨b5, 0, none⟩) ∧ f 10 = .int .i64 e ∧ StX [] w0 w [blk b5 [.int .i64 s.volume, .slice af s.filled.length cf] 87, blk b4 [.slice ar b.rows.length cr, .int .i64 b.leak, .int .i64 b.crest, .int .i64 b.over, .slice ap b.pols.length cp] 85] ∧ (e = (if stB b s ≠ 0 then stB b s else if outB frm 0 200000 = true then 7 else 0)) ∧ True) ?_ ?_
  ·
    refine seq ?_
    refine region ?_
    refine sv (yMove rfl) ?_
    refine sv (yEql rfl rfl) ?_
    refine sv (yMove rfl) ?_
    refine sg rfl rfl rfl (fun g => (yMove rfl)) (fun v23 g23 => ?_)
    refine sgc hS rfl rfl rfl Tryz.call73 (fun g => (.cons (g23.1 g) .nil)) (fun g => c_rtick) ?_; clear hS; intro v24 w hS g24
    refine sg rfl rfl rfl (fun g => (yNot (g24.1 g))) (fun v25 g25 => ?_)
    refine sv (yAnd rfl (fun hB => (g25.1 hB)) rfl) ?_
    refine nil ?_
    show Code.wp _ _ _ _ _
    refine cond rfl (fun c26 => ?_) (fun c26 => ?_)
    ·
      refine region ?_
      refine sv (yAsg rfl) ?_
      refine nil ?_
      exact ⟨_, rfl, _, rfl, rfl, rfl, rfl, rfl, hS, (e4_y c26), trivial⟩
    ·
      refine skip ?_
      exact ⟨_, rfl, _, rfl, rfl, rfl, rfl, rfl, hS, (e4_n c26), trivial⟩
  ·
    clear hS; rintro f w ⟨e, h2, h3, h4, h5, h10, hS, he4, -⟩
    refine seqJ (n := 108) (fun f w => ∃ (e2 : Int), f 2 = .int .i64 frm ∧ f 3 = .slice ah hs.length ch ∧ f 4 = .pointer (some ⟨b4, 0, none⟩) ∧ f 5 = .pointer (some ⟨b5, 0, none⟩) ∧ f 10 = .int .i64 e2 ∧ StX [] w0 w [blk b5 [.int .i64 s.volume, .slice af s.filled.length cf] 87, blk b4 [.slice ar b.rows.length cr, .int .i64 b.leak, .int .i64 b.crest, .int .i64 b.over, .slice ap b.pols.length cp] 85] ∧ (e2 = fromE0 b s frm hs) ∧ True) ?_ ?_
    ·
      refine seq ?_
      refine region ?_
      refine sv (yMove h10) ?_
      refine sv (yEql rfl rfl) ?_
      refine sv (yMove rfl) ?_
      refine sg rfl rfl rfl (fun g => (yMove h3)) (fun v30 g30 => ?_)
      refine sg rfl rfl rfl (fun g => (yLen (g30.1 g) Tryz.underlying88)) (fun v31 g31 => ?_)
      refine sgc hS rfl rfl rfl Tryz.call66 (fun g => (.cons (g31.1 g) (.cons rfl (.cons rfl .nil)))) (fun g => c_rin) ?_; clear hS; intro v32 w hS g32
      refine sg rfl rfl rfl (fun g => (yNot (g32.1 g))) (fun v33 g33 => ?_)
      refine sv (yAnd rfl (fun hB => (g33.1 hB)) rfl) ?_
      refine nil ?_
      show Code.wp _ _ _ _ _
      refine cond rfl (fun c34 => ?_) (fun c34 => ?_)
      ·
        refine region ?_
        refine sv (yAsg rfl) ?_
        refine nil ?_
        exact ⟨_, rfl, _, h2, h3, h4, h5, rfl, hS, (e6_y he4 c34), trivial⟩
      ·
        refine skip ?_
        exact ⟨_, rfl, _, h2, h3, h4, h5, h10, hS, (e6_n he4 c34), trivial⟩
    ·
      clear hS; rintro f w ⟨e2, h2, h3, h4, h5, h10, hS, he6, -⟩
      refine seq ?_
      refine seq ?_
      refine region ?_
      refine sv (yMove h10) ?_
      refine sv (yNeq rfl rfl) ?_
      refine nil ?_
      show Code.wp _ _ _ _ _
      refine cond rfl (fun c36 => ?_) (fun c36 => ?_)
      ·
        simp only [BS, ne_eq] at c36
        refine seq ?_
        refine region ?_
        refine sv (yMove h10) ?_
        refine sv (yAsg rfl) ?_
        refine sv (yAsg rfl) ?_
        refine nil ?_
        show Code.wp _ _ _ _ _
        refine wp_ret (thenR ?_)
        refine retQ (res2 rfl rfl rfl) ?_
        subst he6
        rw [from_err (by rw [fromE0_ne c36]; exact c36), fromE0_ne c36]
        exact ⟨_, rfl, Sl.nil, hS.ext⟩
      ·
        simp only [BS, ne_eq] at c36
        obtain ⟨hst, c24, c27⟩ := fromE0_eq (show fromE0 b s frm hs = 0 by omega)
        obtain ⟨hok, hso⟩ := st_ok hst
        have hnp := hok.npol
        have hhl := outB_false.1 c27
        have hfr := outB_false.1 c24
        refine skip ?_
        show Code.wp _ _ _ _ _
        refine seq ?_
        refine region ?_
        refine sv (yAsg rfl) ?_
        refine nil ?_
        show Code.wp _ _ _ _ _
        refine seq ?_
        refine seq ?_
        refine region ?_
        refine sv (yAsg rfl) ?_
        refine nil ?_
        show Code.wp _ _ _ _ _
        refine block ?_
        refine loop (fun f w zz => ∃ (k : Nat) (lv : Value) (vs : List Value), f 2 = .int .i64 frm ∧ f 3 = .slice ah hs.length ch ∧ f 4 = .pointer (some ⟨b4, 0, none⟩) ∧ f 5 = .pointer (some ⟨b5, 0, none⟩) ∧ f 11 = lv ∧ f 12 = .int .i64 (k : Int) ∧ StX [] w0 w [packI (inI vs ((hs.take k).map (floodsF b s))), rowI (lv) 34 1 k vs, blk b5 [.int .i64 s.volume, .slice af s.filled.length cf] 87, blk b4 [.slice ar b.rows.length cr, .int .i64 b.leak, .int .i64 b.crest, .int .i64 b.over, .slice ap b.pols.length cp] 85] ∧ (k ≤ hs.length) ∧ (vs.length = k) ∧ ((firstR (runE b s) hs 0).2 = (firstR (runE b s) (hs.drop k) k).2) ∧ (∀ y ∈ hs.take k, y.length ≤ 300) ∧ zz = hs.length - k) _ ⟨_, rfl, 0, _, [], h2, h3, h4, h5, rfl, rfl, (StX.pack (M := []) (hS.nilrow 34 1)), (Nat.zero_le _), (rfl), (rfl), (fun i hi => by simp at hi), rfl⟩ ?_
        clear hS
        rintro f w _ ⟨k, lv, vs, h2, h3, h4, h5, h11, h12, hS, hk, hvl, hI, hln, rfl⟩
        refine seq ?_
        refine seq ?_
        refine region ?_
        refine sv (yMove h12) ?_
        refine sv (yMove h3) ?_
        refine sv (yLen rfl Tryz.underlying88) ?_
        refine sv (yLss rfl rfl) ?_
        refine nil ?_
        show Code.wp _ _ _ _ _
        refine cond rfl (fun c41 => ?_) (fun c41 => ?_)
        ·
          simp only [BS, ne_eq] at c41
          obtain ⟨x, hx, hd⟩ := drop_of (l := hs) (k := k) (by omega)
          obtain ⟨bx, ox, cx, hax, hlx, hcx, hRx, -⟩ := sl_at hh hx
          obtain ⟨xv, rfl, hxs⟩ := id hRx
          obtain ⟨alv, clv, rfl⟩ := row_shape (hS.row lv)
          refine skip ?_
          show Code.wp _ _ _ _ _
          refine seq ?_
          refine block ?_
          refine seq ?_
          refine region_mix (fun w => StX [] w0 w [packI (inI vs ((hs.take k).map (floodsF b s))), rowI (.slice alv k clv) 34 1 k vs, blk b5 [.int .i64 s.volume, .slice af s.filled.length cf] 87, blk b4 [.slice ar b.rows.length cr, .int .i64 b.leak, .int .i64 b.crest, .int .i64 b.over, .slice ap b.pols.length cp] 85]) 12 mixed hS ?_
          clear hS; intro w hS
          refine f_step 0 (by kernel_rfl) rfl (fun c a a' w h => by obtain ⟨_, v, hv, _⟩ := h; cases hv) (by first | exact hS | exact hS.sub (.cons _ (List.Sublist.refl _)) | exact hS.sub (.cons _ (.cons _ (List.Sublist.refl _))) | exact hS.sub (.cons _ (.cons _ (.cons _ (List.Sublist.refl _))))) (fun w hS => (yLdBA h4 Tryz.isAgg85 Tryz.sizeOf85 (hS.at _) rfl rfl)) ?_
          refine f_step 1 (by kernel_rfl) rfl (fun c a a' w h => by obtain ⟨_, v, hv, _⟩ := h; cases hv) (by first | exact hS | exact hS.sub (.cons _ (List.Sublist.refl _)) | exact hS.sub (.cons _ (.cons _ (List.Sublist.refl _))) | exact hS.sub (.cons _ (.cons _ (.cons _ (List.Sublist.refl _))))) (fun w hS => (yLdBA h5 Tryz.isAgg87 Tryz.sizeOf87 (hS.at _) rfl rfl)) ?_
          refine f_step 2 (by kernel_rfl) rfl (fun c a a' w h => by obtain ⟨_, v, hv, _⟩ := h; cases hv) (by first | exact hS | exact hS.sub (.cons _ (List.Sublist.refl _)) | exact hS.sub (.cons _ (.cons _ (List.Sublist.refl _))) | exact hS.sub (.cons _ (.cons _ (.cons _ (List.Sublist.refl _))))) (fun w hS => (yMove h3)) ?_
          refine f_step 3 (by kernel_rfl) rfl (fun c a a' w h => by obtain ⟨_, v, hv, _⟩ := h; cases hv) (by first | exact hS | exact hS.sub (.cons _ (List.Sublist.refl _)) | exact hS.sub (.cons _ (.cons _ (List.Sublist.refl _))) | exact hS.sub (.cons _ (.cons _ (.cons _ (List.Sublist.refl _))))) (fun w hS => (yMove h12)) ?_
          refine f_step 4 (by kernel_rfl) rfl (fun c a a' w h => by obtain ⟨_, v, hv, _⟩ := h; cases hv) (by first | exact hS | exact hS.sub (.cons _ (List.Sublist.refl _)) | exact hS.sub (.cons _ (.cons _ (List.Sublist.refl _))) | exact hS.sub (.cons _ (.cons _ (.cons _ (List.Sublist.refl _))))) (fun w hS => (yIxa rfl hax rfl Tryz.runUnderlying88 Tryz.sizeOf94 (by omega) (by omega))) ?_
          refine f_step 5 (by kernel_rfl) rfl (fun c a a' w h => by obtain ⟨_, v, hv, _⟩ := h; cases hv) (by first | exact hS | exact hS.sub (.cons _ (List.Sublist.refl _)) | exact hS.sub (.cons _ (.cons _ (List.Sublist.refl _))) | exact hS.sub (.cons _ (.cons _ (.cons _ (List.Sublist.refl _))))) (fun w hS => (yLd rfl Tryz.isAgg94 ((hcx.ext hS.ext).one))) ?_
          show wpA _ _ _ _ _ _ _ _ _ _
          refine a_step (i := 6) (is := []) (by kernel_rfl) ⟨?_, trivial⟩
          refine ⟨_, rfl, ?_⟩
          refine scall Tryz.call98 (.cons rfl (.cons rfl (.cons rfl .nil))) (c_Floods4 (h.ext hS.ext) (hsq.ext hS.ext) (hxs.ext RBtk.stays hS.ext)) ?_
          rintro _ w ⟨v, m, zs, rfl, hvm, hM⟩; replace hS := hS.call1 hM; clear hM
          refine nil ?_
          refine ⟨fun _ => (by first | exact hS | exact hS.sub (.cons _ (List.Sublist.refl _)) | exact hS.sub (.cons _ (.cons _ (List.Sublist.refl _))) | exact hS.sub (.cons _ (.cons _ (.cons _ (List.Sublist.refl _))))), ?_⟩
          show wpA _ _ _ _ _ _ _ _ _ _
          refine f_step 7 (by kernel_rfl) rfl (fun c a a' w h => by obtain ⟨_, v, hv, _⟩ := h; cases hv) (by first | exact hS | exact hS.sub (.cons _ (List.Sublist.refl _)) | exact hS.sub (.cons _ (.cons _ (List.Sublist.refl _))) | exact hS.sub (.cons _ (.cons _ (.cons _ (List.Sublist.refl _))))) (fun w hS => (yMove rfl)) ?_
          refine f_step 8 (by kernel_rfl) rfl (fun c a a' w h => by obtain ⟨_, v, hv, _⟩ := h; cases hv) (by first | exact hS | exact hS.sub (.cons _ (List.Sublist.refl _)) | exact hS.sub (.cons _ (.cons _ (List.Sublist.refl _))) | exact hS.sub (.cons _ (.cons _ (.cons _ (List.Sublist.refl _))))) (fun w hS => (yExt rfl rfl)) ?_
          refine f_step 9 (by kernel_rfl) rfl (fun c a a' w h => by obtain ⟨_, v, hv, _⟩ := h; cases hv) (by first | exact hS | exact hS.sub (.cons _ (List.Sublist.refl _)) | exact hS.sub (.cons _ (.cons _ (List.Sublist.refl _))) | exact hS.sub (.cons _ (.cons _ (.cons _ (List.Sublist.refl _))))) (fun w hS => (yExt rfl rfl)) ?_
          refine f_step 10 (by kernel_rfl) rfl (fun c a a' w h => by obtain ⟨_, v, hv, _⟩ := h; cases hv) (by first | exact hS | exact hS.sub (.cons _ (List.Sublist.refl _)) | exact hS.sub (.cons _ (.cons _ (List.Sublist.refl _))) | exact hS.sub (.cons _ (.cons _ (.cons _ (List.Sublist.refl _))))) (fun w hS => (yAsg rfl)) ?_
          refine f_step 11 (by kernel_rfl) rfl (fun c a a' w h => by obtain ⟨_, v, hv, _⟩ := h; cases hv) (by first | exact hS | exact hS.sub (.cons _ (List.Sublist.refl _)) | exact hS.sub (.cons _ (.cons _ (List.Sublist.refl _))) | exact hS.sub (.cons _ (.cons _ (.cons _ (List.Sublist.refl _))))) (fun w hS => (yAsg rfl)) ?_
          refine a_end (by kernel_rfl) ?_
          show Code.wp _ _ _ _ _
          refine seq ?_
          refine seq ?_
          refine region ?_
          refine sv (yMove rfl) ?_
          refine sv (yNeq rfl rfl) ?_
          refine nil ?_
          show Code.wp _ _ _ _ _
          refine cond rfl (fun c55 => ?_) (fun c55 => ?_)
          ·
            simp only [BS, ne_eq] at c55
            refine seq ?_
            refine region ?_
            refine sv (yMove rfl) ?_
            refine sv (yAsg rfl) ?_
            refine sv (yAsg rfl) ?_
            refine nil ?_
            show Code.wp _ _ _ _ _
            refine wp_ret (thenR (blockR (thenR (thenR (blockR (thenR ?_))))))
            refine retQ (res2 rfl rfl rfl) ?_
            have hE : fromE b s frm hs = runE b s x := from_run hst c24 c27 (by rw [hI, hd, firstR, if_pos c55]) c55
            rw [from_err (by rw [hE]; exact c55), hE]
            exact ⟨_, rfl, Sl.nil, hS.ext⟩
          ·
            simp only [BS, ne_eq] at c55
            have hr0 : runE b s x = 0 := by omega
            obtain ⟨rfl, rfl⟩ := hvm hr0
            obtain ⟨av3, cv3, rfl⟩ := row_shape (hS.row v)
            refine skip ?_
            show Code.wp _ _ _ _ _
            refine region ?_
            refine sv (yMove h11) ?_
            refine sv (yMove rfl) ?_
            refine sbslice hS Tryz.underlying24 Tryz.sizeOf34 rfl Tryz.zeroValue34 rfl (.cons rfl rfl .nil) rfl ?_; clear hS; intro b59 w hS
            refine sapp (bytes := 24) (size := 1) (v := (.slice alv k clv)) (m := 1) hS rfl rfl Tryz.underlying24 ti34 rfl rfl rfl rfl (by decide) (blk_cells (hS.at _)) rfl rfl (by omega) (by omega) ?_; clear hS; intro v60 w hS
            refine sv (yAsg rfl) ?_
            refine nil ?_
            show Code.wp _ _ _ _ _
            refine region ?_
            refine sv (yMove h12) ?_
            refine sv (yAdd rfl rfl ⟨by omega, by omega⟩) ?_
            refine sv (yAsg rfl) ?_
            refine nil ?_
            exact ⟨_, _, rfl, ⟨k + 1, _, _, h2, h3, h4, h5, rfl, rfl, (by rw [take_snoc hx, List.map_append, List.map_singleton, inI_snoc (by rw [hvl]; simp; omega)]; unfold inR; rw [floodsF_len]; exact (hS.sub (.cons _ (List.Sublist.refl _))).packs), (by omega), (by rw [List.length_append, hvl]; rfl), (by rw [hI, hd, firstR, if_neg (fun k => k hr0)]; rfl), (fun y hy => by rw [take_snoc hx] at hy; rcases List.mem_append.1 hy with hy | hy; exact hln y hy; rw [List.mem_singleton.1 hy]; exact (run_ok hr0).2.2.1), rfl⟩, by omega⟩
        ·
          simp only [BS, ne_eq] at c41
          obtain rfl : k = hs.length := by omega
          rw [List.take_length] at hS hln
          rw [List.drop_length] at hI
          rw [← FZ_0 (frm := frm)] at hS
          obtain ⟨alv, clv, rfl⟩ := row_shape (hS.row lv)
          obtain ⟨gl, rfl, -⟩ := row_get (hS.row (.slice alv hs.length clv)) (by omega)
          have hFR : (firstR (runE b s) hs 0).2 = 0 := by rw [hI]; rfl
          have hFL := from_late hst c24 c27 hFR
          refine exit ?_
          show Code.wp _ _ _ _ _
          refine seq ?_
          refine seq ?_
          refine region ?_
          refine sv (yAsg rfl) ?_
          refine nil ?_
          show Code.wp _ _ _ _ _
          refine block ?_
          refine loop (fun f w zz => ∃ (i : Nat), f 2 = .int .i64 frm ∧ f 11 = .slice (some ⟨gl, 0, none⟩) hs.length clv ∧ f 15 = .int .i64 (i : Int) ∧ StX [] w0 w [packI (inI vs (FZ b s frm hs i)), rowI (.slice (some ⟨gl, 0, none⟩) hs.length clv) 34 1 hs.length vs, blk b5 [.int .i64 s.volume, .slice af s.filled.length cf] 87, blk b4 [.slice ar b.rows.length cr, .int .i64 b.leak, .int .i64 b.crest, .int .i64 b.over, .slice ap b.pols.length cp] 85] ∧ (i ≤ hs.length) ∧ ((hs.take i).any (lateH b s frm) = false) ∧ zz = hs.length - i) _ ⟨_, rfl, 0, h2, h11, rfl, hS, (Nat.zero_le _), (rfl), rfl⟩ ?_
          clear hS
          rintro f w _ ⟨i, h2, h11, h15, hS, hi, hlt, rfl⟩
          refine seq ?_
          refine seq ?_
          refine region ?_
          refine sv (yMove h15) ?_
          refine sv (yMove h11) ?_
          refine sv (yLen rfl Tryz.underlying24) ?_
          refine sv (yLss rfl rfl) ?_
          refine nil ?_
          show Code.wp _ _ _ _ _
          refine cond rfl (fun c64 => ?_) (fun c64 => ?_)
          ·
            simp only [BS, ne_eq] at c64
            obtain ⟨x, hx, -⟩ := drop_of (l := hs) (k := i) (by omega)
            obtain ⟨v0, hv0⟩ : ∃ v0, vs[i]? = some v0 := ⟨_, List.getElem?_eq_getElem (by omega)⟩
            have hxl := hln x (List.mem_of_getElem? hx)
            rw [inI_split hv0 (FZ_at hx)] at hS
            replace hS := hS.takeI
            unfold inR at hS
            rw [floodsF_len] at hS
            obtain ⟨a0, c0, rfl⟩ := row_shape (hS.row v0)
            have hfl := floodsF_len b s x
            refine skip ?_
            show Code.wp _ _ _ _ _
            refine seq ?_
            refine block ?_
            refine seq ?_
            refine region ?_
            refine sv (yAsg rfl) ?_
            refine nil ?_
            show Code.wp _ _ _ _ _
            refine block ?_
            refine loop (fun f w zz => ∃ (j : Nat), f 2 = .int .i64 frm ∧ f 11 = .slice (some ⟨gl, 0, none⟩) hs.length clv ∧ f 15 = .int .i64 (i : Int) ∧ f 16 = .int .i64 (j : Int) ∧ StX [] w0 w [rowI (.slice a0 b.pols.length c0) 3 1 b.pols.length ((addP frm (floodsF b s x) j).flatMap Bx.encI), packI (inI (vs.take i) ((FZ b s frm hs i).take i) ++ inI (vs.drop (i + 1)) ((FZ b s frm hs i).drop (i + 1))), rowI (.slice (some ⟨gl, 0, none⟩) hs.length clv) 34 1 hs.length vs, blk b5 [.int .i64 s.volume, .slice af s.filled.length cf] 87, blk b4 [.slice ar b.rows.length cr, .int .i64 b.leak, .int .i64 b.crest, .int .i64 b.over, .slice ap b.pols.length cp] 85] ∧ (j ≤ b.pols.length) ∧ (((floodsF b s x).take j).any (lateF frm) = false) ∧ zz = b.pols.length - j) _ ⟨_, rfl, 0, h2, h11, h15, rfl, (by rw [addP_0]; exact hS), (Nat.zero_le _), (rfl), rfl⟩ ?_
            clear hS
            rintro f w _ ⟨j, h2, h11, h15, h16, hS, hj, hjt, rfl⟩
            refine seq ?_
            refine seq ?_
            refine region ?_
            refine sv (yMove h16) ?_
            refine sv (yMove h11) ?_
            refine sv (yMove h15) ?_
            refine sv (yIx0 (m := i) rfl rfl Tryz.runUnderlying24 Tryz.sizeOf34 (by omega)) ?_
            refine sv (yLd rfl Tryz.isAgg34 (out_cell (row_at (hS.row (.slice (some ⟨gl, 0, none⟩) hs.length clv)) rfl (by omega)) hv0)) ?_
            refine sv (yLen rfl Tryz.underlying34) ?_
            refine sv (yLss rfl rfl) ?_
            refine nil ?_
            show Code.wp _ _ _ _ _
            refine cond rfl (fun c73 => ?_) (fun c73 => ?_)
            ·
              simp only [BS, ne_eq] at c73
              obtain ⟨nn, hn, -⟩ := drop_of (l := floodsF b s x) (k := j) (by omega)
              have hnb := fl_mem (List.mem_of_getElem? hn)
              obtain ⟨gv, rfl, -⟩ := row_get (hS.row (.slice a0 b.pols.length c0)) (by omega)
              have hat := addP_at (frm := frm) hn
              refine skip ?_
              show Code.wp _ _ _ _ _
              refine seq ?_
              refine block ?_
              refine seq ?_
              refine seq ?_
              refine region ?_
              refine sv (yMove h11) ?_
              refine sv (yMove h15) ?_
              refine sv (yIx0 (m := i) rfl rfl Tryz.runUnderlying24 Tryz.sizeOf34 (by omega)) ?_
              refine sv (yLd rfl Tryz.isAgg34 (out_cell (row_at (hS.row (.slice (some ⟨gl, 0, none⟩) hs.length clv)) rfl (by omega)) hv0)) ?_
              refine sv (yMove h16) ?_
              refine sv (yIx0 (m := j) rfl rfl Tryz.runUnderlying34 Tryz.sizeOf3 (by omega)) ?_
              refine sv (yLd rfl Tryz.isAgg3 ((flat_cells0 (enc := Bx.encI) encI_len (row_at (hS.row (.slice (some ⟨gv, 0, none⟩) b.pols.length c0)) rfl (by omega)) hat).one)) ?_
              refine sv (yGeq rfl rfl) ?_
              refine nil ?_
              show Code.wp _ _ _ _ _
              refine cond rfl (fun c83 => ?_) (fun c83 => ?_)
              ·
                simp only [BS, ne_eq] at c83
                refine region_tail mixed 15 (by kernel_rfl) hS ?_
                refine qv (fun w hS => (yMove h11)) ?_
                refine qv (fun w hS => (yMove h15)) ?_
                refine qv (fun w hS => (yIx0 (m := i) rfl rfl Tryz.runUnderlying24 Tryz.sizeOf34 (by omega))) ?_
                refine qv (fun w hS => (yLd rfl Tryz.isAgg34 (out_cell (row_at (hS.row (.slice (some ⟨gl, 0, none⟩) hs.length clv)) rfl (by omega)) hv0))) ?_
                refine qv (fun w hS => (yMove h16)) ?_
                refine qv (fun w hS => (yMove h11)) ?_
                refine qv (fun w hS => (yMove h15)) ?_
                refine qv (fun w hS => (yIx0 (m := i) rfl rfl Tryz.runUnderlying24 Tryz.sizeOf34 (by omega))) ?_
                refine qv (fun w hS => (yLd rfl Tryz.isAgg34 (out_cell (row_at (hS.row (.slice (some ⟨gl, 0, none⟩) hs.length clv)) rfl (by omega)) hv0))) ?_
                refine qv (fun w hS => (yMove h16)) ?_
                refine qv (fun w hS => (yIx0 (m := j) rfl rfl Tryz.runUnderlying34 Tryz.sizeOf3 (by omega))) ?_
                refine qv (fun w hS => (yLd rfl Tryz.isAgg3 ((flat_cells0 (enc := Bx.encI) encI_len (row_at (hS.row (.slice (some ⟨gv, 0, none⟩) b.pols.length c0)) rfl (by omega)) hat).one))) ?_
                refine qv (fun w hS => (yMove h2)) ?_
                refine qv (fun w hS => (yAdd rfl rfl ⟨by omega, by omega⟩)) ?_
                refine qv (fun w hS => (yIx0 (m := j) rfl rfl Tryz.runUnderlying34 Tryz.sizeOf3 (by omega))) ?_
                clear hS; refine qtl (fun w hS => ?_)
                refine srst (m := b.pols.length) (cap := c0) (sz := 1) (vs := Bx.encI (nn + frm)) hS rfl rfl Tryz.sizeOf3 rfl rfl (by omega) rfl ?_; clear hS; intro w hS
                rw [splice_enc encI_len _ _ _ (by rw [addP_len, floodsF_len]; omega)] at hS
                replace hat := List.getElem?_set_self (l := addP frm (floodsF b s x) j) (i := j) (a := nn + frm) (by rw [addP_len, floodsF_len]; omega)
                refine nil ?_
                show Code.wp _ _ _ _ _
                refine seq ?_
                refine region ?_
                refine sv (yMove h11) ?_
                refine sv (yMove h15) ?_
                refine sv (yIx0 (m := i) rfl rfl Tryz.runUnderlying24 Tryz.sizeOf34 (by omega)) ?_
                refine sv (yLd rfl Tryz.isAgg34 (out_cell (row_at (hS.row (.slice (some ⟨gl, 0, none⟩) hs.length clv)) rfl (by omega)) hv0)) ?_
                refine sv (yMove h16) ?_
                refine sv (yIx0 (m := j) rfl rfl Tryz.runUnderlying34 Tryz.sizeOf3 (by omega)) ?_
                refine sv (yLd rfl Tryz.isAgg3 ((flat_cells0 (enc := Bx.encI) encI_len (row_at (hS.row (.slice (some ⟨gv, 0, none⟩) b.pols.length c0)) rfl (by omega)) hat).one)) ?_
                refine sv (yGtr rfl rfl) ?_
                refine nil ?_
                show Code.wp _ _ _ _ _
                refine cond rfl (fun c106 => ?_) (fun c106 => ?_)
                ·
                  simp only [BS, ne_eq] at c106
                  refine seq ?_
                  refine region ?_
                  refine sv (yAsg rfl) ?_
                  refine sv (yAsg rfl) ?_
                  refine nil ?_
                  show Code.wp _ _ _ _ _
                  refine wp_ret (blockR (thenR (thenR (blockR (blockR (thenR (thenR (blockR (thenR ?_)))))))))
                  refine retQ (res2 rfl rfl rfl) ?_
                  have hla : hs.any (lateH b s frm) = true := List.any_eq_true.2 ⟨x, List.mem_of_getElem? hx, List.any_eq_true.2 ⟨nn, List.mem_of_getElem? hn, by rw [lateF_at c83]; exact decide_eq_true c106⟩⟩
                  rw [if_pos hla] at hFL
                  rw [from_err (by rw [hFL]; decide), hFL]
                  exact ⟨_, rfl, Sl.nil, hS.ext⟩
                ·
                  simp only [BS, ne_eq] at c106
                  refine skip ?_
                  show Code.wp _ _ _ _ _
                  refine region ?_
                  refine sv (yMove h16) ?_
                  refine sv (yAdd rfl rfl ⟨by omega, by omega⟩) ?_
                  refine sv (yAsg rfl) ?_
                  refine nil ?_
                  exact ⟨_, _, rfl, ⟨j + 1, h2, h11, h15, rfl, (by rw [addP_succ hn, addF_at c83]; exact hS), (by omega), (by rw [any_snoc hn, hjt, lateF_at c83]; simpa using c106), rfl⟩, by omega⟩
              ·
                simp only [BS, ne_eq] at c83
                refine skip ?_
                show Code.wp _ _ _ _ _
                refine seq ?_
                refine region ?_
                refine sv (yMove h11) ?_
                refine sv (yMove h15) ?_
                refine sv (yIx0 (m := i) rfl rfl Tryz.runUnderlying24 Tryz.sizeOf34 (by omega)) ?_
                refine sv (yLd rfl Tryz.isAgg34 (out_cell (row_at (hS.row (.slice (some ⟨gl, 0, none⟩) hs.length clv)) rfl (by omega)) hv0)) ?_
                refine sv (yMove h16) ?_
                refine sv (yIx0 (m := j) rfl rfl Tryz.runUnderlying34 Tryz.sizeOf3 (by omega)) ?_
                refine sv (yLd rfl Tryz.isAgg3 ((flat_cells0 (enc := Bx.encI) encI_len (row_at (hS.row (.slice (some ⟨gv, 0, none⟩) b.pols.length c0)) rfl (by omega)) hat).one)) ?_
                refine sv (yGtr rfl rfl) ?_
                refine nil ?_
                show Code.wp _ _ _ _ _
                refine cond rfl (fun c106 => ?_) (fun c106 => ?_)
                ·
                  simp only [BS, ne_eq] at c106
                  exfalso; omega
                ·
                  simp only [BS, ne_eq] at c106
                  refine skip ?_
                  show Code.wp _ _ _ _ _
                  refine region ?_
                  refine sv (yMove h16) ?_
                  refine sv (yAdd rfl rfl ⟨by omega, by omega⟩) ?_
                  refine sv (yAsg rfl) ?_
                  refine nil ?_
                  exact ⟨_, _, rfl, ⟨j + 1, h2, h11, h15, rfl, (by rw [addP_keep hn (addF_no c83)]; exact hS), (by omega), (by rw [any_snoc hn, hjt, lateF_no c83]; rfl), rfl⟩, by omega⟩
            ·
              simp only [BS, ne_eq] at c73
              obtain rfl : j = b.pols.length := by omega
              have hjl := hjt
              refine exit ?_
              show Code.wp _ _ _ _ _
              refine region ?_
              refine sv (yMove h15) ?_
              refine sv (yAdd rfl rfl ⟨by omega, by omega⟩) ?_
              refine sv (yAsg rfl) ?_
              refine nil ?_
              exact ⟨_, _, rfl, ⟨i + 1, h2, h11, rfl, (by rw [inI_split hv0 (FZ_next hx), FZ_take hx, FZ_drop hx]; refine StX.putI ?_; unfold inR; rw [List.length_map, floodsF_len, ← addP_all, floodsF_len]; exact hS), (by omega), (by rw [any_snoc hx, hlt]; show (floodsF b s x).any (lateF frm) = false; rw [← hjl, ← hfl, List.take_length]), rfl⟩, by omega⟩
          ·
            simp only [BS, ne_eq] at c64
            obtain rfl : i = hs.length := by omega
            rw [List.take_length] at hlt
            rw [if_neg (by rw [hlt]; decide)] at hFL
            rw [FZ_all] at hS
            refine exit ?_
            show Code.wp _ _ _ _ _
            refine seq ?_
            refine region ?_
            refine sv (yMove h11) ?_
            refine sv (yAsg rfl) ?_
            refine sv (yAsg rfl) ?_
            refine nil ?_
            show Code.wp _ _ _ _ _
            refine wp_ret ?_
            refine retQ (res2 rfl rfl rfl) ?_
            rw [from_in hFL]
            exact ⟨_, rfl, sl_rows2 (fun w v z h => ⟨v, rfl, h⟩) (by rw [fromL_len, hvl]) (by rw [fromL_len]; exact hS.row (.slice (some ⟨gl, 0, none⟩) hs.length clv)) (fun it hit => hS.inpack (by simp) hit) (fromL_I64 c24 hln), hS.ext⟩
set_option maxHeartbeats 2000000 in
/-- barrage/barragelaw11.AlarmFrom -/
theorem w_AlarmFrom {x : Wtr} {cs : List Value} {w0 : World} (hg : Glb w0) (h : RWtr w0 cs x) : CV Tryz.prog 16 #[.agg cs.toArray] w0 (.bool true) := by
  obtain ⟨rv, pv, fv, hv, rfl, hb, hst, hfI, hhw⟩ := id h
  have hhs := tks_w hhw
  obtain ⟨ah, ch, rfl, -⟩ := id hhs
  refine enter Tryz.func16 rfl Tryz.ntmps16 rfl ?_
  have hS := St.start w0
  refine seq ?_
  refine region ?_
  refine sbox hS rfl rfl ?_; clear hS; intro b1 w hS
  refine sv (yAsg rfl) ?_
  refine nil ?_
  show Code.wp _ _ _ _ _
  refine seq ?_
  refine region ?_
  refine sv (fa90_0 rfl) ?_
  refine sv (yLdBA rfl Tryz.isAgg85 Tryz.sizeOf85 (hS.at _) rfl rfl) ?_
  refine sv (fa90_1 rfl) ?_
  refine sv (yLdBA rfl Tryz.isAgg87 Tryz.sizeOf87 (hS.at _) rfl rfl) ?_
  refine sv (fa90_2 rfl) ?_
  refine sv (yLdB rfl Tryz.isAgg3 (hS.at _) rfl) ?_
  refine sv (fa90_3 rfl) ?_
  refine sv (yLdB rfl Tryz.isAgg88 (hS.at _) rfl) ?_
  refine scall Tryz.call44 (.cons rfl (.cons rfl (.cons rfl (.cons rfl .nil)))) (c_From (hg.ext hS.ext) (hb.ext hS.ext) (hst.ext hS.ext) (hhs.ext RTks.stays hS.ext)) ?_
  rintro _ w ⟨va, rfl, hKva, hE⟩; replace hS := hS.step hE; clear hE
  refine sv (yMove rfl) ?_
  refine sv (yExt rfl rfl) ?_
  refine sv (yExt rfl rfl) ?_
  refine sv (yAsg rfl) ?_
  refine sv (yAsg rfl) ?_
  refine nil ?_
  show Code.wp _ _ _ _ _
  refine seq ?_
  refine region ?_
  refine sv (fa90_0 rfl) ?_
  refine sv (yLdBA rfl Tryz.isAgg85 Tryz.sizeOf85 (hS.at _) rfl rfl) ?_
  refine sv (fa90_1 rfl) ?_
  refine sv (yLdBA rfl Tryz.isAgg87 Tryz.sizeOf87 (hS.at _) rfl rfl) ?_
  refine sv (fa90_2 rfl) ?_
  refine sv (yLdB rfl Tryz.isAgg3 (hS.at _) rfl) ?_
  refine sv (fa90_3 rfl) ?_
  refine sv (yLdB rfl Tryz.isAgg88 (hS.at _) rfl) ?_
  refine scall Tryz.call45 (.cons rfl (.cons rfl (.cons rfl (.cons rfl .nil)))) (c_rFrom (hb.ext hS.ext) (hst.ext hS.ext) (hhs.ext RTks.stays hS.ext)) ?_
  rintro _ w ⟨vb, rfl, hKvb, hE⟩; replace hKva := hKva.ext RRow.stays hE; replace hS := hS.step hE; clear hE
  refine sv (yMove rfl) ?_
  refine sv (yExt rfl rfl) ?_
  refine sv (yExt rfl rfl) ?_
  refine sv (yAsg rfl) ?_
  refine sv (yAsg rfl) ?_
  refine nil ?_
  show Code.wp _ _ _ _ _
  refine seq ?_
  refine region ?_
  refine sv (yMove rfl) ?_
  refine sv (yMove rfl) ?_
  refine scall Tryz.call30 (.cons rfl (.cons rfl .nil)) (c_Lists hKva hKvb) ?_
  rintro _ w ⟨rfl, hE⟩; replace hS := hS.step hE; clear hE
  refine sv (yMove rfl) ?_
  refine sg rfl rfl rfl (fun g => (yMove rfl)) (fun v35 g35 => ?_)
  refine sg rfl rfl rfl (fun g => (yMove rfl)) (fun v36 g36 => ?_)
  refine sg rfl rfl rfl (fun g => (yEql (g35.1 g) (g36.1 g))) (fun v37 g37 => ?_)
  refine sv (yAnd rfl (fun hB => (g37.1 hB)) rfl) ?_
  refine sv (yMove rfl) ?_
  refine sgc hS rfl rfl rfl Tryz.call20 (fun g => .nil) (fun g => (c_Awake (hg.ext hS.ext))) ?_; clear hS; intro v40 w hS g40
  refine sv (yAnd rfl (fun hB => (g40.1 hB)) rfl) ?_
  refine sv (yAsg rfl) ?_
  refine nil ?_
  show Code.wp _ _ _ _ _
  refine wp_ret ?_
  exact retV (res1 rfl (eqB (by simp))) hS.ext
end Go.Proofs.YtmoilbakmlekbaaGreatDoor

/- part Rd1 -/
namespace Go.Proofs.YtmoilbakmlekbaaGreatDoor
open Go Bx
theorem rd_Ints : RdW Tryz.prog 34 (fun w cs (l : List Int) => ∃ v, cs = [v] ∧ Sl w 1 RInt v l ∧ l.length * 8 ≤ 140737488351232) := rdw_slice (Rd.w (rd_int Tryz.underlying3)) (by kernel_rfl) (by decide) Tryz.underlying34 (by kernel_rfl)
end Go.Proofs.YtmoilbakmlekbaaGreatDoor

/- part RdG -/
namespace Go.Proofs.YtmoilbakmlekbaaGreatDoor
open Go Bx
section
variable {H : Type} {enc : TypeId × Value → H} {w : World} {base : Nat} {spare : Nat → Bool} {held : Bool} {fuel : Nat} {cs : List Value} {x : DataW H × List MemPlace}
theorem rdF85 (h : DataW.trod enc Tryz.prog w base spare held fuel 85 cs = some x) (hW : WOk Tryz.prog 85 x.1) : ∃ n c0 c1 c2 c3 c4, cs = [c0, c1, c2, c3, c4] ∧ (∃ y, DataW.trod enc Tryz.prog w base spare held n 82 [c0] = some y ∧ WOk Tryz.prog 82 y.1) ∧ (∃ y, DataW.trod enc Tryz.prog w base spare held n 3 [c1] = some y ∧ WOk Tryz.prog 3 y.1) ∧ (∃ y, DataW.trod enc Tryz.prog w base spare held n 3 [c2] = some y ∧ WOk Tryz.prog 3 y.1) ∧ (∃ y, DataW.trod enc Tryz.prog w base spare held n 3 [c3] = some y ∧ WOk Tryz.prog 3 y.1) ∧ (∃ y, DataW.trod enc Tryz.prog w base spare held n 83 [c4] = some y ∧ WOk Tryz.prog 83 y.1) := by
  have z3 : Tryz.prog.cellsOf 3 = 1 := by kernel_rfl
  have z82 : Tryz.prog.cellsOf 82 = 1 := by kernel_rfl
  have z83 : Tryz.prog.cellsOf 83 = 1 := by kernel_rfl
  obtain ⟨hl, n, hf⟩ := rdw_fields Tryz.underlying85 h hW
  have hz : Tryz.prog.cellsOf 85 = 5 := by kernel_rfl
  rw [hz] at hl
  obtain ⟨c0, c1, c2, c3, c4, rfl⟩ := five_of hl
  have f0 : ∃ y, DataW.trod enc Tryz.prog w base spare held n 82 ((List.drop 0 [c0, c1, c2, c3, c4]).take (Tryz.prog.cellsOf 82)) = some y ∧ WOk Tryz.prog 82 y.1 := hf 0 _ rfl
  rw [z82] at f0
  have f1 : ∃ y, DataW.trod enc Tryz.prog w base spare held n 3 ((List.drop 1 [c0, c1, c2, c3, c4]).take (Tryz.prog.cellsOf 3)) = some y ∧ WOk Tryz.prog 3 y.1 := hf 1 _ rfl
  rw [z3] at f1
  have f2 : ∃ y, DataW.trod enc Tryz.prog w base spare held n 3 ((List.drop 2 [c0, c1, c2, c3, c4]).take (Tryz.prog.cellsOf 3)) = some y ∧ WOk Tryz.prog 3 y.1 := hf 2 _ rfl
  rw [z3] at f2
  have f3 : ∃ y, DataW.trod enc Tryz.prog w base spare held n 3 ((List.drop 3 [c0, c1, c2, c3, c4]).take (Tryz.prog.cellsOf 3)) = some y ∧ WOk Tryz.prog 3 y.1 := hf 3 _ rfl
  rw [z3] at f3
  have f4 : ∃ y, DataW.trod enc Tryz.prog w base spare held n 83 ((List.drop 4 [c0, c1, c2, c3, c4]).take (Tryz.prog.cellsOf 83)) = some y ∧ WOk Tryz.prog 83 y.1 := hf 4 _ rfl
  rw [z83] at f4
  exact ⟨n, c0, c1, c2, c3, c4, rfl, f0, f1, f2, f3, f4⟩
theorem rdF87 (h : DataW.trod enc Tryz.prog w base spare held fuel 87 cs = some x) (hW : WOk Tryz.prog 87 x.1) : ∃ n c0 c1, cs = [c0, c1] ∧ (∃ y, DataW.trod enc Tryz.prog w base spare held n 3 [c0] = some y ∧ WOk Tryz.prog 3 y.1) ∧ (∃ y, DataW.trod enc Tryz.prog w base spare held n 34 [c1] = some y ∧ WOk Tryz.prog 34 y.1) := by
  have z3 : Tryz.prog.cellsOf 3 = 1 := by kernel_rfl
  have z34 : Tryz.prog.cellsOf 34 = 1 := by kernel_rfl
  obtain ⟨hl, n, hf⟩ := rdw_fields Tryz.underlying87 h hW
  have hz : Tryz.prog.cellsOf 87 = 2 := by kernel_rfl
  rw [hz] at hl
  obtain ⟨c0, c1, rfl⟩ := two_of hl
  have f0 : ∃ y, DataW.trod enc Tryz.prog w base spare held n 3 ((List.drop 0 [c0, c1]).take (Tryz.prog.cellsOf 3)) = some y ∧ WOk Tryz.prog 3 y.1 := hf 0 _ rfl
  rw [z3] at f0
  have f1 : ∃ y, DataW.trod enc Tryz.prog w base spare held n 34 ((List.drop 1 [c0, c1]).take (Tryz.prog.cellsOf 34)) = some y ∧ WOk Tryz.prog 34 y.1 := hf 1 _ rfl
  rw [z34] at f1
  exact ⟨n, c0, c1, rfl, f0, f1⟩
theorem rdF90 (h : DataW.trod enc Tryz.prog w base spare held fuel 90 cs = some x) (hW : WOk Tryz.prog 90 x.1) : ∃ n c0 c1 c2 c3 c4 c5 c6 c7 c8, cs = [c0, c1, c2, c3, c4, c5, c6, c7, c8] ∧ (∃ y, DataW.trod enc Tryz.prog w base spare held n 85 [c0, c1, c2, c3, c4] = some y ∧ WOk Tryz.prog 85 y.1) ∧ (∃ y, DataW.trod enc Tryz.prog w base spare held n 87 [c5, c6] = some y ∧ WOk Tryz.prog 87 y.1) ∧ (∃ y, DataW.trod enc Tryz.prog w base spare held n 3 [c7] = some y ∧ WOk Tryz.prog 3 y.1) ∧ (∃ y, DataW.trod enc Tryz.prog w base spare held n 88 [c8] = some y ∧ WOk Tryz.prog 88 y.1) := by
  have z3 : Tryz.prog.cellsOf 3 = 1 := by kernel_rfl
  have z85 : Tryz.prog.cellsOf 85 = 5 := by kernel_rfl
  have z87 : Tryz.prog.cellsOf 87 = 2 := by kernel_rfl
  have z88 : Tryz.prog.cellsOf 88 = 1 := by kernel_rfl
  obtain ⟨hl, n, hf⟩ := rdw_fields Tryz.underlying90 h hW
  have hz : Tryz.prog.cellsOf 90 = 9 := by kernel_rfl
  rw [hz] at hl
  obtain ⟨c0, c1, c2, c3, c4, c5, c6, c7, c8, rfl⟩ := nine_of hl
  have f0 : ∃ y, DataW.trod enc Tryz.prog w base spare held n 85 ((List.drop 0 [c0, c1, c2, c3, c4, c5, c6, c7, c8]).take (Tryz.prog.cellsOf 85)) = some y ∧ WOk Tryz.prog 85 y.1 := hf 0 _ rfl
  rw [z85] at f0
  have f1 : ∃ y, DataW.trod enc Tryz.prog w base spare held n 87 ((List.drop 5 [c0, c1, c2, c3, c4, c5, c6, c7, c8]).take (Tryz.prog.cellsOf 87)) = some y ∧ WOk Tryz.prog 87 y.1 := hf 1 _ rfl
  rw [z87] at f1
  have f2 : ∃ y, DataW.trod enc Tryz.prog w base spare held n 3 ((List.drop 7 [c0, c1, c2, c3, c4, c5, c6, c7, c8]).take (Tryz.prog.cellsOf 3)) = some y ∧ WOk Tryz.prog 3 y.1 := hf 2 _ rfl
  rw [z3] at f2
  have f3 : ∃ y, DataW.trod enc Tryz.prog w base spare held n 88 ((List.drop 8 [c0, c1, c2, c3, c4, c5, c6, c7, c8]).take (Tryz.prog.cellsOf 88)) = some y ∧ WOk Tryz.prog 88 y.1 := hf 3 _ rfl
  rw [z88] at f3
  exact ⟨n, c0, c1, c2, c3, c4, c5, c6, c7, c8, rfl, f0, f1, f2, f3⟩
theorem rdF96 (h : DataW.trod enc Tryz.prog w base spare held fuel 96 cs = some x) (hW : WOk Tryz.prog 96 x.1) : ∃ n c0 c1 c2, cs = [c0, c1, c2] ∧ (∃ y, DataW.trod enc Tryz.prog w base spare held n 3 [c0] = some y ∧ WOk Tryz.prog 3 y.1) ∧ (∃ y, DataW.trod enc Tryz.prog w base spare held n 3 [c1] = some y ∧ WOk Tryz.prog 3 y.1) ∧ (∃ y, DataW.trod enc Tryz.prog w base spare held n 3 [c2] = some y ∧ WOk Tryz.prog 3 y.1) := by
  have z3 : Tryz.prog.cellsOf 3 = 1 := by kernel_rfl
  obtain ⟨hl, n, hf⟩ := rdw_fields Tryz.underlying96 h hW
  have hz : Tryz.prog.cellsOf 96 = 3 := by kernel_rfl
  rw [hz] at hl
  obtain ⟨c0, c1, c2, rfl⟩ := three_of hl
  have f0 : ∃ y, DataW.trod enc Tryz.prog w base spare held n 3 ((List.drop 0 [c0, c1, c2]).take (Tryz.prog.cellsOf 3)) = some y ∧ WOk Tryz.prog 3 y.1 := hf 0 _ rfl
  rw [z3] at f0
  have f1 : ∃ y, DataW.trod enc Tryz.prog w base spare held n 3 ((List.drop 1 [c0, c1, c2]).take (Tryz.prog.cellsOf 3)) = some y ∧ WOk Tryz.prog 3 y.1 := hf 1 _ rfl
  rw [z3] at f1
  have f2 : ∃ y, DataW.trod enc Tryz.prog w base spare held n 3 ((List.drop 2 [c0, c1, c2]).take (Tryz.prog.cellsOf 3)) = some y ∧ WOk Tryz.prog 3 y.1 := hf 2 _ rfl
  rw [z3] at f2
  exact ⟨n, c0, c1, c2, rfl, f0, f1, f2⟩
theorem rdF202 (h : DataW.trod enc Tryz.prog w base spare held fuel 202 cs = some x) (hW : WOk Tryz.prog 202 x.1) : ∃ n c0 c1, cs = [c0, c1] ∧ (∃ y, DataW.trod enc Tryz.prog w base spare held n 3 [c0] = some y ∧ WOk Tryz.prog 3 y.1) ∧ (∃ y, DataW.trod enc Tryz.prog w base spare held n 3 [c1] = some y ∧ WOk Tryz.prog 3 y.1) := by
  have z3 : Tryz.prog.cellsOf 3 = 1 := by kernel_rfl
  obtain ⟨hl, n, hf⟩ := rdw_fields Tryz.underlying202 h hW
  have hz : Tryz.prog.cellsOf 202 = 2 := by kernel_rfl
  rw [hz] at hl
  obtain ⟨c0, c1, rfl⟩ := two_of hl
  have f0 : ∃ y, DataW.trod enc Tryz.prog w base spare held n 3 ((List.drop 0 [c0, c1]).take (Tryz.prog.cellsOf 3)) = some y ∧ WOk Tryz.prog 3 y.1 := hf 0 _ rfl
  rw [z3] at f0
  have f1 : ∃ y, DataW.trod enc Tryz.prog w base spare held n 3 ((List.drop 1 [c0, c1]).take (Tryz.prog.cellsOf 3)) = some y ∧ WOk Tryz.prog 3 y.1 := hf 1 _ rfl
  rw [z3] at f1
  exact ⟨n, c0, c1, rfl, f0, f1⟩
theorem rdF204 (h : DataW.trod enc Tryz.prog w base spare held fuel 204 cs = some x) (hW : WOk Tryz.prog 204 x.1) : ∃ n c0 c1 c2 c3, cs = [c0, c1, c2, c3] ∧ (∃ y, DataW.trod enc Tryz.prog w base spare held n 9 [c0] = some y ∧ WOk Tryz.prog 9 y.1) ∧ (∃ y, DataW.trod enc Tryz.prog w base spare held n 3 [c1] = some y ∧ WOk Tryz.prog 3 y.1) ∧ (∃ y, DataW.trod enc Tryz.prog w base spare held n 3 [c2] = some y ∧ WOk Tryz.prog 3 y.1) ∧ (∃ y, DataW.trod enc Tryz.prog w base spare held n 3 [c3] = some y ∧ WOk Tryz.prog 3 y.1) := by
  have z3 : Tryz.prog.cellsOf 3 = 1 := by kernel_rfl
  have z9 : Tryz.prog.cellsOf 9 = 1 := by kernel_rfl
  obtain ⟨hl, n, hf⟩ := rdw_fields Tryz.underlying204 h hW
  have hz : Tryz.prog.cellsOf 204 = 4 := by kernel_rfl
  rw [hz] at hl
  obtain ⟨c0, c1, c2, c3, rfl⟩ := four_of hl
  have f0 : ∃ y, DataW.trod enc Tryz.prog w base spare held n 9 ((List.drop 0 [c0, c1, c2, c3]).take (Tryz.prog.cellsOf 9)) = some y ∧ WOk Tryz.prog 9 y.1 := hf 0 _ rfl
  rw [z9] at f0
  have f1 : ∃ y, DataW.trod enc Tryz.prog w base spare held n 3 ((List.drop 1 [c0, c1, c2, c3]).take (Tryz.prog.cellsOf 3)) = some y ∧ WOk Tryz.prog 3 y.1 := hf 1 _ rfl
  rw [z3] at f1
  have f2 : ∃ y, DataW.trod enc Tryz.prog w base spare held n 3 ((List.drop 2 [c0, c1, c2, c3]).take (Tryz.prog.cellsOf 3)) = some y ∧ WOk Tryz.prog 3 y.1 := hf 2 _ rfl
  rw [z3] at f2
  have f3 : ∃ y, DataW.trod enc Tryz.prog w base spare held n 3 ((List.drop 3 [c0, c1, c2, c3]).take (Tryz.prog.cellsOf 3)) = some y ∧ WOk Tryz.prog 3 y.1 := hf 3 _ rfl
  rw [z3] at f3
  exact ⟨n, c0, c1, c2, c3, rfl, f0, f1, f2, f3⟩
end
end Go.Proofs.YtmoilbakmlekbaaGreatDoor

/- part Rd3 -/
namespace Go.Proofs.YtmoilbakmlekbaaGreatDoor
open Go Bx
theorem rd_BRow : RdW Tryz.prog 202 RBrow := by
  intro H enc w base spare held fuel cs x h hW
  obtain ⟨n, c0, c1, rfl, ⟨y0, f0, k0⟩, ⟨y1, f1, k1⟩⟩ := rdF202 h hW
  obtain ⟨a0, g0⟩ := (Rd.w (rd_int Tryz.underlying3)) _ _ _ _ _ _ _ _ _ f0 k0
  obtain ⟨a1, g1⟩ := (Rd.w (rd_int Tryz.underlying3)) _ _ _ _ _ _ _ _ _ f1 k1
  obtain ⟨e0, i0⟩ := g0; obtain ⟨e1, i1⟩ := g1; cases e0; cases e1; exact ⟨⟨a0, a1⟩, rfl, i0, i1⟩
theorem rd_BRows : RdW Tryz.prog 82 (fun w cs (l : List BRow) => ∃ v, cs = [v] ∧ Sl w 2 RBrow v l ∧ l.length * 16 ≤ 140737488351232) := rdw_slice rd_BRow (by kernel_rfl) (by decide) Tryz.underlying82 (by kernel_rfl)
theorem rd_Pol : RdW Tryz.prog 204 RPol := by
  intro H enc w base spare held fuel cs x h hW
  obtain ⟨n, c0, c1, c2, c3, rfl, ⟨y0, f0, k0⟩, ⟨y1, f1, k1⟩, ⟨y2, f2, k2⟩, ⟨y3, f3, k3⟩⟩ := rdF204 h hW
  obtain ⟨a0, g0⟩ := (Rd.w (rd_str Tryz.underlying9)) _ _ _ _ _ _ _ _ _ f0 k0
  obtain ⟨a1, g1⟩ := (Rd.w (rd_int Tryz.underlying3)) _ _ _ _ _ _ _ _ _ f1 k1
  obtain ⟨a2, g2⟩ := (Rd.w (rd_int Tryz.underlying3)) _ _ _ _ _ _ _ _ _ f2 k2
  obtain ⟨a3, g3⟩ := (Rd.w (rd_int Tryz.underlying3)) _ _ _ _ _ _ _ _ _ f3 k3
  obtain ⟨e0, i0⟩ := g0; obtain ⟨e1, i1⟩ := g1; obtain ⟨e2, i2⟩ := g2; obtain ⟨e3, i3⟩ := g3; cases e0; cases e1; cases e2; cases e3; exact ⟨⟨a0, a1, a2, a3⟩, rfl, i0, i1, i2, i3⟩
theorem rd_Pols : RdW Tryz.prog 83 (fun w cs (l : List Pol) => ∃ v, cs = [v] ∧ Sl w 4 RPol v l ∧ l.length * 40 ≤ 140737488351232) := rdw_slice rd_Pol (by kernel_rfl) (by decide) Tryz.underlying83 (by kernel_rfl)
theorem rd_Bas : RdW Tryz.prog 85 RBas := by
  intro H enc w base spare held fuel cs x h hW
  obtain ⟨n, c0, c1, c2, c3, c4, rfl, ⟨y0, f0, k0⟩, ⟨y1, f1, k1⟩, ⟨y2, f2, k2⟩, ⟨y3, f3, k3⟩, ⟨y4, f4, k4⟩⟩ := rdF85 h hW
  obtain ⟨a0, g0⟩ := rd_BRows _ _ _ _ _ _ _ _ _ f0 k0
  obtain ⟨a1, g1⟩ := (Rd.w (rd_int Tryz.underlying3)) _ _ _ _ _ _ _ _ _ f1 k1
  obtain ⟨a2, g2⟩ := (Rd.w (rd_int Tryz.underlying3)) _ _ _ _ _ _ _ _ _ f2 k2
  obtain ⟨a3, g3⟩ := (Rd.w (rd_int Tryz.underlying3)) _ _ _ _ _ _ _ _ _ f3 k3
  obtain ⟨a4, g4⟩ := rd_Pols _ _ _ _ _ _ _ _ _ f4 k4
  obtain ⟨e1, i1⟩ := g1; obtain ⟨e2, i2⟩ := g2; obtain ⟨e3, i3⟩ := g3; obtain ⟨v0, e0, i0, r0⟩ := g0; obtain ⟨v4, e4, i4, r4⟩ := g4; cases e0; cases e1; cases e2; cases e3; cases e4; exact ⟨⟨a0, a1, a2, a3, a4⟩, _, _, rfl, i0, i1, i2, i3, i4⟩
theorem rd_Bst : RdW Tryz.prog 87 RBst := by
  intro H enc w base spare held fuel cs x h hW
  obtain ⟨n, c0, c1, rfl, ⟨y0, f0, k0⟩, ⟨y1, f1, k1⟩⟩ := rdF87 h hW
  obtain ⟨a0, g0⟩ := (Rd.w (rd_int Tryz.underlying3)) _ _ _ _ _ _ _ _ _ f0 k0
  obtain ⟨a1, g1⟩ := rd_Ints _ _ _ _ _ _ _ _ _ f1 k1
  obtain ⟨e0, i0⟩ := g0; obtain ⟨v1, e1, i1, r1⟩ := g1; cases e0; cases e1; exact ⟨⟨a0, a1⟩, _, rfl, i0, i1, r1⟩
theorem rd_Btk : RdW Tryz.prog 96 RBtk := by
  intro H enc w base spare held fuel cs x h hW
  obtain ⟨n, c0, c1, c2, rfl, ⟨y0, f0, k0⟩, ⟨y1, f1, k1⟩, ⟨y2, f2, k2⟩⟩ := rdF96 h hW
  obtain ⟨a0, g0⟩ := (Rd.w (rd_int Tryz.underlying3)) _ _ _ _ _ _ _ _ _ f0 k0
  obtain ⟨a1, g1⟩ := (Rd.w (rd_int Tryz.underlying3)) _ _ _ _ _ _ _ _ _ f1 k1
  obtain ⟨a2, g2⟩ := (Rd.w (rd_int Tryz.underlying3)) _ _ _ _ _ _ _ _ _ f2 k2
  obtain ⟨e0, i0⟩ := g0; obtain ⟨e1, i1⟩ := g1; obtain ⟨e2, i2⟩ := g2; cases e0; cases e1; cases e2; exact ⟨⟨a0, a1, a2⟩, rfl, i0, i1, i2⟩
theorem rd_Tks : RdW Tryz.prog 94 (fun w cs (l : List BTk) => ∃ v, cs = [v] ∧ Sl w 3 RBtk v l ∧ l.length * 24 ≤ 140737488351232) := rdw_slice rd_Btk (by kernel_rfl) (by decide) Tryz.underlying94 (by kernel_rfl)
theorem rd_TksW : RdW Tryz.prog 94 RTksW := rd_Tks
theorem rd_Tkss : RdW Tryz.prog 88 (fun w cs (l : List (List BTk)) => ∃ v, cs = [v] ∧ Sl w 1 RTksW v l ∧ l.length * 24 ≤ 140737488351232) := rdw_slice rd_TksW (by kernel_rfl) (by decide) Tryz.underlying88 (by kernel_rfl)
theorem rd_Wtr : RdW Tryz.prog 90 RWtr := by
  intro H enc w base spare held fuel cs x h hW
  obtain ⟨n, c0, c1, c2, c3, c4, c5, c6, c7, c8, rfl, ⟨y0, f0, k0⟩, ⟨y1, f1, k1⟩, ⟨y2, f2, k2⟩, ⟨y3, f3, k3⟩⟩ := rdF90 h hW
  obtain ⟨a0, g0⟩ := rd_Bas _ _ _ _ _ _ _ _ _ f0 k0
  obtain ⟨a1, g1⟩ := rd_Bst _ _ _ _ _ _ _ _ _ f1 k1
  obtain ⟨a2, g2⟩ := (Rd.w (rd_int Tryz.underlying3)) _ _ _ _ _ _ _ _ _ f2 k2
  obtain ⟨a3, g3⟩ := rd_Tkss _ _ _ _ _ _ _ _ _ f3 k3
  obtain ⟨rv, pv, e0, i0⟩ := g0; obtain ⟨fv, e1, i1⟩ := g1; obtain ⟨e2, i2⟩ := g2; obtain ⟨v3, e3, i3, r3⟩ := g3; cases e0; cases e1; cases e2; cases e3; exact ⟨⟨a0, a1, a2, a3⟩, _, _, _, _, rfl, ⟨_, _, rfl, i0⟩, ⟨_, rfl, i1⟩, i2, i3⟩
end Go.Proofs.YtmoilbakmlekbaaGreatDoor

/- part Laid -/
namespace Go.Proofs.YtmoilbakmlekbaaGreatDoor
open Go Bx Go.ChangeShapes Go.WideShapes Go.RowKit
theorem laidEt : Tryz.prog.globalNamed "errors.errorType" = some 0 := by kernel_rfl
theorem laidRt : (Tryz.prog.cutTypes.find? (·.1 == "internal/reflectlite.rtype")).map (·.2) = some 217 := by kernel_rfl
theorem laidOne : ((List.range 309).filter fun t => Tryz.prog.rowNamed t [101, 114, 114, 111, 114]) = [120] := by kernel_rfl
theorem laidSize : Tryz.prog.types.size = 309 := by kernel_rfl
theorem glb_of_laid {W : World} (h : laidMetH Tryz.prog [("errors.errorType", Rows.laid_errors_errorType)] W) : Glb W := by
  have h' : laidMet Tryz.prog [] W ∧ handlesMet Tryz.prog [("errors.errorType", Rows.laid_errors_errorType)] W := h
  obtain ⟨name, u, ty, e1, e2, e3, e4, e5⟩ := h'.2 _ (List.mem_singleton.2 rfl)
  have en : name = [101, 114, 114, 111, 114] := (Option.some.inj e1).symm
  subst en
  obtain rfl := Option.some.inj (laidRt.symm.trans e2)
  have hm : ty ∈ (List.range 309).filter fun t => Tryz.prog.rowNamed t [101, 114, 114, 111, 114] := List.mem_filter.2 ⟨List.mem_range.2 (by rw [← laidSize]; exact e3), e4⟩
  rw [laidOne] at hm
  obtain rfl := List.mem_singleton.1 hm
  have hh : typeHandle Tryz.prog 120 = .pointer (some ⟨1, 120, none⟩) := by kernel_rfl
  rw [hh] at e5
  simpa [Glb] using World.var?_cell laidEt e5 0
noncomputable def laidWorld (os : Os) : World :=
  let w0 := World.holding Tryz.prog os ⟨#[], #[], []⟩
  { w0 with heap := w0.heap.modify 0 fun
      | .cells _ t frozen => .cells #[.iface 217 (.agg #[.pointer (some ⟨1, 120, none⟩)])] t frozen
      | o => o }
theorem laidWorld_met (os : Os) (args : Array Value) : laidMetH Tryz.prog [("errors.errorType", Rows.laid_errors_errorType)] ((laidWorld os).forCall (fun _ _ => 0) ⟨#[], args, []⟩).memory :=
  laidMetH_of_parts (laidMet_nil _ _) (by kernel_rfl)
end Go.Proofs.YtmoilbakmlekbaaGreatDoor

