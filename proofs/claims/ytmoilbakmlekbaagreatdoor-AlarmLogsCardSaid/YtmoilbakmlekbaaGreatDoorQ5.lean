/- Merged texts, part 5. -/
import Derived.Test.YtmoilbakmlekbaaGreatDoorQ4
import Derived.Test.YtmoilbakmlekbaaGreatDoorProg
import Derived.Test.YtmoilbakmlekbaaGreatDoorRows
import Derived.ChangeSame
import Derived.ChangeVars
import Derived.JoinedOf
import Derived.RowKit
import Derived.RowKitTokens
import Derived.LaidLaws
import Derived.LaidHandle
import Derived.Stop.Joined
set_option linter.all false
/- part Aw28 -/
namespace Go.Proofs.YtmoilbakmlekbaaGreatDoor
open Go Bx
set_option maxHeartbeats 2000000 in
/-- barrage/barrageref11.town -/
theorem c_rtown {t : Task} {hv nv fv : Value} {i : Nat} {x : Town} {w0 : World} (h : RTask w0 [.int .i64 t.polders, hv, nv, fv] t) (hx : t.towns[i]? = some x) (hp : 0 ≤ t.polders ∧ t.polders ≤ 6) : CV Tryz.prog 68 #[.agg [.int .i64 t.polders, hv, nv, fv].toArray, .int .i64 (i : Int)] w0 (.int .i64 (errR (·.name) (townE t.polders t.chans.length) t.towns i x)) := by
  obtain ⟨hv', nv', fv', he0, hpol, hsh, hsn, hsf⟩ := id h
  obtain ⟨rfl, rfl, rfl⟩ : hv' = hv ∧ nv' = nv ∧ fv' = fv := by simpa [eq_comm] using he0
  obtain ⟨a1, cap1, rfl, hcap1, hmx1, hel1⟩ := id hsh
  obtain ⟨a2, cap2, rfl, hcap2, hmx2, hel2⟩ := id hsn
  obtain ⟨a3, cap3, rfl, hcap3, hmx3, hel3⟩ := id hsf
  have hil := (List.getElem?_eq_some_iff.1 hx).1
  obtain ⟨bq, oq, csq, haq, hlq, hcsq, hRq, -⟩ := sl_at hsn hx
  obtain ⟨dv, rfl, hnm, -, -, -, hsd, -⟩ := hRq
  obtain ⟨ad, cd, rfl, hdcap, hdmx, held⟩ := id hsd
  refine enter Tryz.func68 rfl Tryz.ntmps68 rfl ?_
  have hS := St.start w0
  refine seq ?_
  refine region ?_
  refine sbox hS rfl rfl ?_; clear hS; intro b2 w hS
  refine sv (yAsg rfl) ?_
  refine nil ?_
  show Code.wp _ _ _ _ _
  refine seq ?_
  refine region ?_
  refine sv (fa26_2 rfl) ?_
  refine sv (yLdB rfl Tryz.isAgg23 (hS.at _) rfl) ?_
  refine sv (yMove rfl) ?_
  refine sv (yIxa rfl haq rfl Tryz.runUnderlying23 Tryz.sizeOf36 (by omega) (by omega)) ?_
  refine sv (yLdA rfl Tryz.isAgg36 Tryz.sizeOf36 (hcsq.ext hS.ext) rfl) ?_
  refine salloc hS Tryz.zeroValue36 rfl ?_; clear hS; intro b5 w hS
  refine sst hS rfl rfl Tryz.sizeOf36 rfl rfl rfl rfl ?_; clear hS; intro w hS
  refine nil ?_
  show Code.wp _ _ _ _ _
  refine seq ?_
  refine seq ?_
  refine region ?_
  replace hS : StX [] w0 w (blk b5 [.string x.name, .int .i64 x.polder, .int .i64 x.travel, .int .i64 x.lead, .slice ad x.chans.length cd] 36 :: blk b2 [.int .i64 t.polders, .slice a1 t.chans.length cap1, .slice a2 t.towns.length cap2, .slice a3 t.floods.length cap3] 26 :: []) := hS
  refine sv (fa36_0 rfl) ?_
  refine sv (yLdB rfl Tryz.isAgg9 (hS.at _) rfl) ?_
  refine scall Tryz.call115 (.cons rfl .nil) (c_rName hnm) ?_
  rintro _ w ⟨rfl, hE⟩; replace hS := hS.step hE; clear hE
  refine sv (yNot rfl) ?_
  refine nil ?_
  show Code.wp _ _ _ _ _
  refine cond rfl (fun c19 => ?_) (fun c19 => ?_)
  ·
    refine seq ?_
    refine region ?_
    refine sv (yAsg rfl) ?_
    refine nil ?_
    show Code.wp _ _ _ _ _
    refine wp_ret (thenR ?_)
    exact retV (res1 rfl (eqI (errR_form c19))) hS.ext
  ·
    refine skip ?_
    show Code.wp _ _ _ _ _
    refine seq ?_
    refine seq ?_
    refine region ?_
    refine sv (yAsg rfl) ?_
    refine nil ?_
    show Code.wp _ _ _ _ _
    refine block ?_
    refine loop (fun f w zz => ∃ (k : Nat), f 1 = .int .i64 (i : Int) ∧ f 2 = .pointer (some ⟨b2, 0, none⟩) ∧ f 5 = .pointer (some ⟨b5, 0, none⟩) ∧ f 6 = .int .i64 (k : Int) ∧ StX [] w0 w [blk b5 [.string x.name, .int .i64 x.polder, .int .i64 x.travel, .int .i64 x.lead, .slice ad x.chans.length cd] 36, blk b2 [.int .i64 t.polders, .slice a1 t.chans.length cap1, .slice a2 t.towns.length cap2, .slice a3 t.floods.length cap3] 26] ∧ (k ≤ i) ∧ (∀ q, q < k → ∀ u : Town, t.towns[q]? = some u → u.name ≠ x.name) ∧ zz = i - k) _ ⟨_, rfl, 0, rfl, rfl, rfl, rfl, hS, (Nat.zero_le _), (fun q hq => absurd hq (Nat.not_lt_zero q)), rfl⟩ ?_
    clear hS
    rintro f w _ ⟨k, h1, h2, h5, h6, hS, hk, hN, rfl⟩
    refine seq ?_
    refine seq ?_
    refine region ?_
    refine sv (yMove h6) ?_
    refine sv (yMove h1) ?_
    refine sv (yLss rfl rfl) ?_
    refine nil ?_
    show Code.wp _ _ _ _ _
    refine cond rfl (fun c22 => ?_) (fun c22 => ?_)
    ·
      simp only [Bool.and_eq_true, Bool.or_eq_true, Bool.and_eq_false_iff, Bool.or_eq_false_iff, decide_eq_true_eq, decide_eq_false_iff_not, Bool.not_eq_true, Bool.not_eq_false, Bool.not_not, Bool.not_eq_eq_eq_not, Bool.not_true, Bool.not_false, Bool.false_eq_true, Bool.true_eq_false, ne_eq, Decidable.not_not, not_false_eq_true, not_true_eq_false] at c22
      refine skip ?_
      show Code.wp _ _ _ _ _
      refine seq ?_
      refine block ?_
      refine seq ?_
      refine region_draw mixed (by kernel_rfl) hS ?_
      obtain ⟨u, hxu, -⟩ := drop_of (l := t.towns) (k := k) (by omega)
      obtain ⟨bu, ou, csu, hau, hlu, hcsu, hRu, -⟩ := sl_at hsn hxu
      obtain ⟨duv, rfl, -⟩ := hRu
      refine qv (fun w hS => (fa26_2 h2)) ?_
      refine qv (fun w hS => (yLdB rfl Tryz.isAgg23 (hS.at _) rfl)) ?_
      refine qv (fun w hS => (yMove h6)) ?_
      refine qv (fun w hS => (yIxa rfl hau rfl Tryz.runUnderlying23 Tryz.sizeOf36 (by omega) (by omega))) ?_
      refine qv (fun w hS => (fa36_0 rfl)) ?_
      refine qv (fun w hS => (yLd rfl Tryz.isAgg9 ((hcsu.ext hS.ext).at (j := 0) rfl))) ?_
      refine qv (fun w hS => (fa36_0 h5)) ?_
      refine qv (fun w hS => (yLdB rfl Tryz.isAgg9 (hS.at _) rfl)) ?_
      refine qv (fun w hS => (ySEq rfl rfl)) ?_
      clear hS; refine qnil (fun w hS => ?_)
      show Code.wp _ _ _ _ _
      refine cond rfl (fun c33 => ?_) (fun c33 => ?_)
      ·
        simp only [Bool.and_eq_true, Bool.or_eq_true, Bool.and_eq_false_iff, Bool.or_eq_false_iff, decide_eq_true_eq, decide_eq_false_iff_not, Bool.not_eq_true, Bool.not_eq_false, Bool.not_not, Bool.not_eq_eq_eq_not, Bool.not_true, Bool.not_false, Bool.false_eq_true, Bool.true_eq_false, ne_eq, Decidable.not_not, not_false_eq_true, not_true_eq_false] at c33
        refine seq ?_
        refine region ?_
        refine sv (yAsg rfl) ?_
        refine nil ?_
        show Code.wp _ _ _ _ _
        refine wp_ret (blockR (thenR (thenR (blockR (thenR ?_)))))
        exact retV (res1 rfl (eqI (errR_twice c19 hxu (by omega) c33))) hS.ext
      ·
        simp only [Bool.and_eq_true, Bool.or_eq_true, Bool.and_eq_false_iff, Bool.or_eq_false_iff, decide_eq_true_eq, decide_eq_false_iff_not, Bool.not_eq_true, Bool.not_eq_false, Bool.not_not, Bool.not_eq_eq_eq_not, Bool.not_true, Bool.not_false, Bool.false_eq_true, Bool.true_eq_false, ne_eq, Decidable.not_not, not_false_eq_true, not_true_eq_false] at c33
        refine skip ?_
        show Code.wp _ _ _ _ _
        refine region ?_
        refine sv (yMove h6) ?_
        refine sv (yAdd rfl rfl ⟨by omega, by omega⟩) ?_
        refine sv (yAsg rfl) ?_
        refine nil ?_
        exact ⟨_, _, rfl, ⟨k + 1, h1, h2, h5, rfl, hS, (by omega), (snoc hN (fun v hv => by cases Option.some.inj (hxu.symm.trans hv); exact c33)), rfl⟩, by omega⟩
    ·
      simp only [Bool.and_eq_true, Bool.or_eq_true, Bool.and_eq_false_iff, Bool.or_eq_false_iff, decide_eq_true_eq, decide_eq_false_iff_not, Bool.not_eq_true, Bool.not_eq_false, Bool.not_not, Bool.not_eq_eq_eq_not, Bool.not_true, Bool.not_false, Bool.false_eq_true, Bool.true_eq_false, ne_eq, Decidable.not_not, not_false_eq_true, not_true_eq_false] at c22
      have hne : errR (·.name) (townE t.polders t.chans.length) t.towns i x = townE t.polders t.chans.length x := errR_rest c19 (fun q hq => hN q (by omega))
      refine exit ?_
      show Code.wp _ _ _ _ _
      refine seq ?_
      refine region ?_
      refine sv (fa36_1 h5) ?_
      refine sv (yLdB rfl Tryz.isAgg3 (hS.at _) rfl) ?_
      refine sv (fa26_0 h2) ?_
      refine sv (yLdB rfl Tryz.isAgg3 (hS.at _) rfl) ?_
      refine sv (ySub rfl rfl ⟨by omega, by omega⟩) ?_
      refine scall Tryz.call66 (.cons rfl (.cons rfl (.cons rfl .nil))) c_rin ?_
      rintro _ w ⟨rfl, hE⟩; replace hS := hS.step hE; clear hE
      refine sv (yNot rfl) ?_
      refine sv (yAsg rfl) ?_
      refine sv (yAsg rfl) ?_
      refine nil ?_
      show Code.wp _ _ _ _ _
      refine seq ?_
      refine seq ?_
      refine region ?_
      refine sv (yAsg rfl) ?_
      refine nil ?_
      show Code.wp _ _ _ _ _
      refine block ?_
      refine loop (fun f w zz => ∃ (k : Nat), f 2 = .pointer (some ⟨b2, 0, none⟩) ∧ f 5 = .pointer (some ⟨b5, 0, none⟩) ∧ f 7 = .bool (nonB t x k) ∧ f 8 = .bool (dupB x k) ∧ f 9 = .int .i64 (k : Int) ∧ StX [] w0 w [blk b5 [.string x.name, .int .i64 x.polder, .int .i64 x.travel, .int .i64 x.lead, .slice ad x.chans.length cd] 36, blk b2 [.int .i64 t.polders, .slice a1 t.chans.length cap1, .slice a2 t.towns.length cap2, .slice a3 t.floods.length cap3] 26] ∧ (k ≤ x.chans.length) ∧ zz = x.chans.length - k) _ ⟨_, rfl, 0, h2, h5, (rfl.trans (congrArg Value.bool (nonB_zero t x).symm)), (rfl.trans (congrArg Value.bool (dupB_zero x).symm)), rfl, hS, (Nat.zero_le _), rfl⟩ ?_
      clear hS
      rintro f w _ ⟨k, h2, h5, h7, h8, h9, hS, hk, rfl⟩
      refine seq ?_
      refine seq ?_
      refine region ?_
      refine sv (yMove h9) ?_
      refine sv (fa36_4 h5) ?_
      refine sv (yLdB rfl Tryz.isAgg34 (hS.at _) rfl) ?_
      refine sv (yLen rfl Tryz.underlying34) ?_
      refine sv (yLss rfl rfl) ?_
      refine nil ?_
      show Code.wp _ _ _ _ _
      refine cond rfl (fun c45 => ?_) (fun c45 => ?_)
      ·
        simp only [Bool.and_eq_true, Bool.or_eq_true, Bool.and_eq_false_iff, Bool.or_eq_false_iff, decide_eq_true_eq, decide_eq_false_iff_not, Bool.not_eq_true, Bool.not_eq_false, Bool.not_not, Bool.not_eq_eq_eq_not, Bool.not_true, Bool.not_false, Bool.false_eq_true, Bool.true_eq_false, ne_eq, Decidable.not_not, not_false_eq_true, not_true_eq_false] at c45
        obtain ⟨s, hxs, hds⟩ := drop_of (l := x.chans) (k := k) (by omega)
        obtain ⟨bs, os, css, has, hlens, hcss, hRs⟩ := held (k) (by omega)
        obtain rfl : s = x.chans[k] := (List.getElem?_eq_some_iff.1 hxs).2.symm
        generalize x.chans[k] = s at hxs hds hRs
        obtain ⟨rfl, hsi⟩ := hRs
        refine skip ?_
        show Code.wp _ _ _ _ _
        refine seq ?_
        refine block ?_
        refine seq ?_
        refine region_draw mixed (by kernel_rfl) hS ?_
        refine qv (fun w hS => (yMove h7)) ?_
        refine qv (fun w hS => (yMove rfl)) ?_
        refine qg rfl rfl rfl (fun g w hS => (fa36_4 h5)) (fun v50 g50 => ?_)
        refine qg rfl rfl rfl (fun g w hS => (yLdB (g50.1 g) Tryz.isAgg34 (hS.at _) rfl)) (fun v51 g51 => ?_)
        refine qg rfl rfl rfl (fun g w hS => (yMove h9)) (fun v52 g52 => ?_)
        refine qg rfl rfl rfl (fun g w hS => (yIxa (g51.1 g) has (g52.1 g) Tryz.runUnderlying34 Tryz.sizeOf3 (by omega) (by omega))) (fun v53 g53 => ?_)
        refine qg rfl rfl rfl (fun g w hS => (yLd (g53.1 g) Tryz.isAgg3 ((hcss.ext hS.ext).one))) (fun v54 g54 => ?_)
        refine qg rfl rfl rfl (fun g w hS => (fa26_1 h2)) (fun v55 g55 => ?_)
        refine qg rfl rfl rfl (fun g w hS => (yLdB (g55.1 g) Tryz.isAgg22 (hS.at _) rfl)) (fun v56 g56 => ?_)
        refine qg rfl rfl rfl (fun g w hS => (yLen (g56.1 g) Tryz.underlying22)) (fun v57 g57 => ?_)
        refine qg rfl rfl rfl (fun g w hS => (ySub (g57.1 g) rfl ⟨by omega, by omega⟩)) (fun v58 g58 => ?_)
        refine qgc rfl rfl rfl Tryz.call66 (fun g => (.cons (g54.1 g) (.cons rfl (.cons (g58.1 g) .nil)))) (fun g w hS => c_rin) (fun v59 g59 => ?_)
        refine qg rfl rfl rfl (fun g w hS => (yNot (g59.1 g))) (fun v60 g60 => ?_)
        refine qv (fun w hS => (yOr rfl rfl (fun hB => (g60.1 hB)))) ?_
        refine qv (fun w hS => (yAsg rfl)) ?_
        clear hS; refine qnil (fun w hS => ?_)
        show Code.wp _ _ _ _ _
        refine seq ?_
        refine region ?_
        refine sv (yAsg rfl) ?_
        refine nil ?_
        show Code.wp _ _ _ _ _
        refine block ?_
        refine loop (fun f w zz => ∃ (j : Nat), f 2 = .pointer (some ⟨b2, 0, none⟩) ∧ f 5 = .pointer (some ⟨b5, 0, none⟩) ∧ f 7 = .bool (nonB t x (k + 1)) ∧ f 8 = .bool (dupB x k || (x.chans.take j).any fun y => decide (y = s)) ∧ f 9 = .int .i64 (k : Int) ∧ f 10 = .int .i64 (j : Int) ∧ StX [] w0 w [blk b5 [.string x.name, .int .i64 x.polder, .int .i64 x.travel, .int .i64 x.lead, .slice ad x.chans.length cd] 36, blk b2 [.int .i64 t.polders, .slice a1 t.chans.length cap1, .slice a2 t.towns.length cap2, .slice a3 t.floods.length cap3] 26] ∧ (j ≤ k) ∧ zz = k - j) _ ⟨_, rfl, 0, h2, h5, (rfl.trans (congrArg Value.bool (nonB_succ hxs).symm)), (h8.trans (congrArg Value.bool (by simp))), h9, rfl, hS, (Nat.zero_le _), rfl⟩ ?_
        clear hS
        rintro f w _ ⟨j, h2, h5, h7, h8, h9, h10, hS, hj, rfl⟩
        refine seq ?_
        refine seq ?_
        refine region ?_
        refine sv (yMove h10) ?_
        refine sv (yMove h9) ?_
        refine sv (yLss rfl rfl) ?_
        refine nil ?_
        show Code.wp _ _ _ _ _
        refine cond rfl (fun c64 => ?_) (fun c64 => ?_)
        ·
          simp only [Bool.and_eq_true, Bool.or_eq_true, Bool.and_eq_false_iff, Bool.or_eq_false_iff, decide_eq_true_eq, decide_eq_false_iff_not, Bool.not_eq_true, Bool.not_eq_false, Bool.not_not, Bool.not_eq_eq_eq_not, Bool.not_true, Bool.not_false, Bool.false_eq_true, Bool.true_eq_false, ne_eq, Decidable.not_not, not_false_eq_true, not_true_eq_false] at c64
          obtain ⟨z, hxz, hdz⟩ := drop_of (l := x.chans) (k := j) (by omega)
          obtain ⟨bz, oz, csz, haz, hlenz, hcsz, hRz⟩ := held (j) (by omega)
          obtain rfl : z = x.chans[j] := (List.getElem?_eq_some_iff.1 hxz).2.symm
          generalize x.chans[j] = z at hxz hdz hRz
          obtain ⟨rfl, hzi⟩ := hRz
          refine skip ?_
          show Code.wp _ _ _ _ _
          refine seq ?_
          refine block ?_
          refine region_draw mixed (by kernel_rfl) hS ?_
          refine qv (fun w hS => (yMove h8)) ?_
          refine qv (fun w hS => (yMove rfl)) ?_
          refine qg rfl rfl rfl (fun g w hS => (fa36_4 h5)) (fun v69 g69 => ?_)
          refine qg rfl rfl rfl (fun g w hS => (yLdB (g69.1 g) Tryz.isAgg34 (hS.at _) rfl)) (fun v70 g70 => ?_)
          refine qg rfl rfl rfl (fun g w hS => (yMove h10)) (fun v71 g71 => ?_)
          refine qg rfl rfl rfl (fun g w hS => (yIxa (g70.1 g) haz (g71.1 g) Tryz.runUnderlying34 Tryz.sizeOf3 (by omega) (by omega))) (fun v72 g72 => ?_)
          refine qg rfl rfl rfl (fun g w hS => (yLd (g72.1 g) Tryz.isAgg3 ((hcsz.ext hS.ext).one))) (fun v73 g73 => ?_)
          refine qg rfl rfl rfl (fun g w hS => (fa36_4 h5)) (fun v74 g74 => ?_)
          refine qg rfl rfl rfl (fun g w hS => (yLdB (g74.1 g) Tryz.isAgg34 (hS.at _) rfl)) (fun v75 g75 => ?_)
          refine qg rfl rfl rfl (fun g w hS => (yMove h9)) (fun v76 g76 => ?_)
          refine qg rfl rfl rfl (fun g w hS => (yIxa (g75.1 g) has (g76.1 g) Tryz.runUnderlying34 Tryz.sizeOf3 (by omega) (by omega))) (fun v77 g77 => ?_)
          refine qg rfl rfl rfl (fun g w hS => (yLd (g77.1 g) Tryz.isAgg3 ((hcss.ext hS.ext).one))) (fun v78 g78 => ?_)
          refine qg rfl rfl rfl (fun g w hS => (yEql (g73.1 g) (g78.1 g))) (fun v79 g79 => ?_)
          refine qv (fun w hS => (yOr rfl rfl (fun hB => (g79.1 hB)))) ?_
          refine qv (fun w hS => (yAsg rfl)) ?_
          clear hS; refine qnil (fun w hS => ?_)
          show Code.wp _ _ _ _ _
          refine region ?_
          refine sv (yMove h10) ?_
          refine sv (yAdd rfl rfl ⟨by omega, by omega⟩) ?_
          refine sv (yAsg rfl) ?_
          refine nil ?_
          exact ⟨_, _, rfl, ⟨j + 1, h2, h5, h7, (rfl.trans (congrArg Value.bool (by rw [hasB_take hxz, Bool.or_assoc]))), h9, rfl, hS, (by omega), rfl⟩, by omega⟩
        ·
          simp only [Bool.and_eq_true, Bool.or_eq_true, Bool.and_eq_false_iff, Bool.or_eq_false_iff, decide_eq_true_eq, decide_eq_false_iff_not, Bool.not_eq_true, Bool.not_eq_false, Bool.not_not, Bool.not_eq_eq_eq_not, Bool.not_true, Bool.not_false, Bool.false_eq_true, Bool.true_eq_false, ne_eq, Decidable.not_not, not_false_eq_true, not_true_eq_false] at c64
          obtain rfl : k = j := by omega
          refine exit ?_
          show Code.wp _ _ _ _ _
          refine region ?_
          refine sv (yMove h9) ?_
          refine sv (yAdd rfl rfl ⟨by omega, by omega⟩) ?_
          refine sv (yAsg rfl) ?_
          refine nil ?_
          exact ⟨_, _, rfl, ⟨k + 1, h2, h5, h7, (h8.trans (congrArg Value.bool (by rw [dupB_succ hxs]))), rfl, hS, (by omega), rfl⟩, by omega⟩
      ·
        simp only [Bool.and_eq_true, Bool.or_eq_true, Bool.and_eq_false_iff, Bool.or_eq_false_iff, decide_eq_true_eq, decide_eq_false_iff_not, Bool.not_eq_true, Bool.not_eq_false, Bool.not_not, Bool.not_eq_eq_eq_not, Bool.not_true, Bool.not_false, Bool.false_eq_true, Bool.true_eq_false, ne_eq, Decidable.not_not, not_false_eq_true, not_true_eq_false] at c45
        obtain rfl : k = x.chans.length := by omega
        refine exit ?_
        show Code.wp _ _ _ _ _
        refine seq ?_
        refine seq ?_
        refine region ?_
        refine sv (yMove h7) ?_
        refine nil ?_
        show Code.wp _ _ _ _ _
        refine cond rfl (fun c81 => ?_) (fun c81 => ?_)
        ·
          refine seq ?_
          refine region ?_
          refine sv (yAsg rfl) ?_
          refine nil ?_
          show Code.wp _ _ _ _ _
          refine wp_ret (thenR ?_)
          exact retV (res1 rfl (eqI (hne.trans (townE_4 c81)))) hS.ext
        ·
          refine skip ?_
          show Code.wp _ _ _ _ _
          refine seq ?_
          refine seq ?_
          refine region ?_
          refine sv (yMove h8) ?_
          refine nil ?_
          show Code.wp _ _ _ _ _
          refine cond rfl (fun c82 => ?_) (fun c82 => ?_)
          ·
            refine seq ?_
            refine region ?_
            refine sv (yAsg rfl) ?_
            refine nil ?_
            show Code.wp _ _ _ _ _
            refine wp_ret (thenR ?_)
            exact retV (res1 rfl (eqI (hne.trans (townE_5 c81 c82)))) hS.ext
          ·
            refine skip ?_
            show Code.wp _ _ _ _ _
            refine seq ?_
            refine seq ?_
            refine region ?_
            refine sv (fa36_2 h5) ?_
            refine sv (yLdB rfl Tryz.isAgg3 (hS.at _) rfl) ?_
            refine scall Tryz.call66 (.cons rfl (.cons rfl (.cons rfl .nil))) c_rin ?_
            rintro _ w ⟨rfl, hE⟩; replace hS := hS.step hE; clear hE
            refine sv (yNot rfl) ?_
            refine sv (yMove rfl) ?_
            refine sg rfl rfl rfl (fun g => (fa36_3 h5)) (fun v88 g88 => ?_)
            refine sg rfl rfl rfl (fun g => (yLdB (g88.1 g) Tryz.isAgg3 (hS.at _) rfl)) (fun v89 g89 => ?_)
            refine sgc hS rfl rfl rfl Tryz.call66 (fun g => (.cons (g89.1 g) (.cons rfl (.cons rfl .nil)))) (fun g => c_rin) ?_; clear hS; intro v90 w hS g90
            refine sg rfl rfl rfl (fun g => (yNot (g90.1 g))) (fun v91 g91 => ?_)
            refine sv (yOr rfl rfl (fun hB => (g91.1 hB))) ?_
            refine nil ?_
            show Code.wp _ _ _ _ _
            refine cond rfl (fun c92 => ?_) (fun c92 => ?_)
            ·
              refine seq ?_
              refine region ?_
              refine sv (yAsg rfl) ?_
              refine nil ?_
              show Code.wp _ _ _ _ _
              refine wp_ret (thenR ?_)
              exact retV (res1 rfl (eqI (hne.trans ((townE_7 c81 c82).trans (if_pos c92))))) hS.ext
            ·
              refine skip ?_
              show Code.wp _ _ _ _ _
              refine seq ?_
              refine region ?_
              refine sv (yAsg rfl) ?_
              refine nil ?_
              show Code.wp _ _ _ _ _
              refine wp_ret ?_
              exact retV (res1 rfl (eqI (hne.trans ((townE_7 c81 c82).trans (if_neg (by rw [show ((!inB x.travel 0 500) || (!inB x.lead 0 500)) = false from c92]; decide)))))) hS.ext
end Go.Proofs.YtmoilbakmlekbaaGreatDoor

/- part Aw29 -/
namespace Go.Proofs.YtmoilbakmlekbaaGreatDoor
open Go Bx
set_option maxHeartbeats 2000000 in
/-- barrage/barrageref11.Check -/
theorem c_rCheck {t : Task} {hv nv fv : Value} {w0 : World} (h : RTask w0 [.int .i64 t.polders, hv, nv, fv] t) : CV Tryz.prog 22 #[.agg [.int .i64 t.polders, hv, nv, fv].toArray] w0 (.tuple #[.int .i64 (checkA t).1, .int .i64 (checkA t).2.1, .int .i64 (checkA t).2.2]) := by
  obtain ⟨hv', nv', fv', he0, hpol, hsh, hsn, hsf⟩ := id h
  obtain ⟨rfl, rfl, rfl⟩ : hv' = hv ∧ nv' = nv ∧ fv' = fv := by simpa [eq_comm] using he0
  obtain ⟨a1, cap1, rfl, hcap1, hmx1, hel1⟩ := id hsh
  obtain ⟨a2, cap2, rfl, hcap2, hmx2, hel2⟩ := id hsn
  obtain ⟨a3, cap3, rfl, hcap3, hmx3, hel3⟩ := id hsf
  refine enter Tryz.func22 rfl Tryz.ntmps22 rfl ?_
  have hS := St.start w0
  refine seq ?_
  refine region ?_
  refine sbox hS rfl rfl ?_; clear hS; intro b1 w hS
  refine sv (yAsg rfl) ?_
  refine sv (yAsg rfl) ?_
  refine sv (yAsg rfl) ?_
  refine nil ?_
  show Code.wp _ _ _ _ _
  refine seq ?_
  refine seq ?_
  refine region ?_
  refine sv (fa26_0 rfl) ?_
  refine sv (yLdB rfl Tryz.isAgg3 (hS.at _) rfl) ?_
  refine scall Tryz.call66 (.cons rfl (.cons rfl (.cons rfl .nil))) c_rin ?_
  rintro _ w ⟨rfl, hE⟩; replace hS := hS.step hE; clear hE
  refine sv (yNot rfl) ?_
  refine nil ?_
  show Code.wp _ _ _ _ _
  refine cond rfl (fun c14 => ?_) (fun c14 => ?_)
  ·
    have h14 : outB t.polders 0 6 = true := by rw [← inB_not]; exact c14
    refine seq ?_
    refine region ?_
    refine sv (yAsg rfl) ?_
    refine sv (yAsg rfl) ?_
    refine sv (yAsg rfl) ?_
    refine nil ?_
    show Code.wp _ _ _ _ _
    have hfin : checkA t = (1, 0, 7) := by unfold checkA; rw [if_pos h14]
    refine wp_ret (thenR ?_)
    exact retV (res3 rfl (fstI hfin) (thd1I hfin) (thd2I hfin)) hS.ext
  ·
    have h14 : outB t.polders 0 6 = false := by rw [← inB_not]; exact c14
    have hp := outB_false.1 h14
    refine skip ?_
    show Code.wp _ _ _ _ _
    refine seq ?_
    refine seq ?_
    refine region ?_
    refine sv (fa26_1 rfl) ?_
    refine sv (yLdB rfl Tryz.isAgg22 (hS.at _) rfl) ?_
    refine sv (yLen rfl Tryz.underlying22) ?_
    refine sv (yGtr rfl rfl) ?_
    refine nil ?_
    show Code.wp _ _ _ _ _
    refine cond rfl (fun c18 => ?_) (fun c18 => ?_)
    ·
      simp only [Bool.and_eq_true, Bool.or_eq_true, Bool.and_eq_false_iff, Bool.or_eq_false_iff, decide_eq_true_eq, decide_eq_false_iff_not, Bool.not_eq_true, Bool.not_eq_false, Bool.not_not, Bool.not_eq_eq_eq_not, Bool.not_true, Bool.not_false, Bool.false_eq_true, Bool.true_eq_false, ne_eq, Decidable.not_not, not_false_eq_true, not_true_eq_false] at c18
      refine seq ?_
      refine region ?_
      refine sv (yAsg rfl) ?_
      refine sv (yAsg rfl) ?_
      refine sv (yAsg rfl) ?_
      refine nil ?_
      show Code.wp _ _ _ _ _
      have hfin : checkA t = (2, 0, 3) := by unfold checkA; rw [if_neg (by rw [h14]; decide), if_pos c18]
      refine wp_ret (thenR ?_)
      exact retV (res3 rfl (fstI hfin) (thd1I hfin) (thd2I hfin)) hS.ext
    ·
      simp only [Bool.and_eq_true, Bool.or_eq_true, Bool.and_eq_false_iff, Bool.or_eq_false_iff, decide_eq_true_eq, decide_eq_false_iff_not, Bool.not_eq_true, Bool.not_eq_false, Bool.not_not, Bool.not_eq_eq_eq_not, Bool.not_true, Bool.not_false, Bool.false_eq_true, Bool.true_eq_false, ne_eq, Decidable.not_not, not_false_eq_true, not_true_eq_false] at c18
      refine skip ?_
      show Code.wp _ _ _ _ _
      refine seq ?_
      refine seq ?_
      refine region ?_
      refine sv (yAsg rfl) ?_
      refine nil ?_
      show Code.wp _ _ _ _ _
      refine block ?_
      refine loop (fun f w zz => ∃ (k : Nat), f 1 = .pointer (some ⟨b1, 0, none⟩) ∧ f 5 = .int .i64 (k : Int) ∧ StX [] w0 w [blk b1 [.int .i64 t.polders, .slice a1 t.chans.length cap1, .slice a2 t.towns.length cap2, .slice a3 t.floods.length cap3] 26] ∧ (k ≤ t.chans.length) ∧ (namedR (·.name) chanE t.chans [] 0 = namedR (·.name) chanE (t.chans.drop k) ((t.chans.take k).map (·.name)) k) ∧ zz = t.chans.length - k) _ ⟨_, rfl, 0, rfl, rfl, hS, (Nat.zero_le _), (rfl), rfl⟩ ?_
      clear hS
      rintro f w _ ⟨k, h1, h5, hS, hk, hI, rfl⟩
      refine seq ?_
      refine seq ?_
      refine region ?_
      refine sv (yMove h5) ?_
      refine sv (fa26_1 h1) ?_
      refine sv (yLdB rfl Tryz.isAgg22 (hS.at _) rfl) ?_
      refine sv (yLen rfl Tryz.underlying22) ?_
      refine sv (yLss rfl rfl) ?_
      refine nil ?_
      show Code.wp _ _ _ _ _
      refine cond rfl (fun c23 => ?_) (fun c23 => ?_)
      ·
        simp only [Bool.and_eq_true, Bool.or_eq_true, Bool.and_eq_false_iff, Bool.or_eq_false_iff, decide_eq_true_eq, decide_eq_false_iff_not, Bool.not_eq_true, Bool.not_eq_false, Bool.not_not, Bool.not_eq_eq_eq_not, Bool.not_true, Bool.not_false, Bool.false_eq_true, Bool.true_eq_false, ne_eq, Decidable.not_not, not_false_eq_true, not_true_eq_false] at c23
        refine skip ?_
        show Code.wp _ _ _ _ _
        refine seq ?_
        refine block ?_
        refine seq ?_
        refine region ?_
        obtain ⟨x, hx, hd⟩ := drop_of (l := t.chans) (k := k) (by omega)
        refine sv (yLdBA h1 Tryz.isAgg26 Tryz.sizeOf26 (hS.at _) rfl rfl) ?_
        refine sv (yMove h5) ?_
        refine scall Tryz.call67 (.cons rfl (.cons rfl .nil)) (c_rchan (h.ext hS.ext) hx) ?_
        rintro _ w ⟨rfl, hE⟩; replace hS := hS.step hE; clear hE
        refine sv (yAsg rfl) ?_
        refine nil ?_
        show Code.wp _ _ _ _ _
        refine seq ?_
        refine region ?_
        refine sv (yMove rfl) ?_
        refine sv (yNeq rfl rfl) ?_
        refine nil ?_
        show Code.wp _ _ _ _ _
        refine cond rfl (fun c30 => ?_) (fun c30 => ?_)
        ·
          simp only [Bool.and_eq_true, Bool.or_eq_true, Bool.and_eq_false_iff, Bool.or_eq_false_iff, decide_eq_true_eq, decide_eq_false_iff_not, Bool.not_eq_true, Bool.not_eq_false, Bool.not_not, Bool.not_eq_eq_eq_not, Bool.not_true, Bool.not_false, Bool.false_eq_true, Bool.true_eq_false, ne_eq, Decidable.not_not, not_false_eq_true, not_true_eq_false] at c30
          refine seq ?_
          refine region ?_
          refine sv (yMove h5) ?_
          refine sv (yMove rfl) ?_
          refine sv (yAsg rfl) ?_
          refine sv (yAsg rfl) ?_
          refine sv (yAsg rfl) ?_
          refine nil ?_
          show Code.wp _ _ _ _ _
          have hNE : namedR (·.name) chanE t.chans [] 0 = ((k : Int), errR (·.name) chanE t.chans k x) := hI.trans (namedR_hit hd c30)
          have hfin : checkA t = (2, (k : Int), errR (·.name) chanE t.chans k x) := by unfold checkA; rw [if_neg (by rw [h14]; decide), if_neg c18, if_pos (by rw [hNE]; exact c30), hNE]
          refine wp_ret (blockR (thenR (thenR (blockR (thenR ?_)))))
          exact retV (res3 rfl (fstI hfin) (thd1I hfin) (thd2I hfin)) hS.ext
        ·
          simp only [Bool.and_eq_true, Bool.or_eq_true, Bool.and_eq_false_iff, Bool.or_eq_false_iff, decide_eq_true_eq, decide_eq_false_iff_not, Bool.not_eq_true, Bool.not_eq_false, Bool.not_not, Bool.not_eq_eq_eq_not, Bool.not_true, Bool.not_false, Bool.false_eq_true, Bool.true_eq_false, ne_eq, Decidable.not_not, not_false_eq_true, not_true_eq_false] at c30
          refine skip ?_
          show Code.wp _ _ _ _ _
          refine region ?_
          refine sv (yMove h5) ?_
          refine sv (yAdd rfl rfl ⟨by omega, by omega⟩) ?_
          refine sv (yAsg rfl) ?_
          refine nil ?_
          exact ⟨_, _, rfl, ⟨k + 1, h1, rfl, hS, (by omega), (by rw [hI]; exact namedR_step hx hd c30), rfl⟩, by omega⟩
      ·
        simp only [Bool.and_eq_true, Bool.or_eq_true, Bool.and_eq_false_iff, Bool.or_eq_false_iff, decide_eq_true_eq, decide_eq_false_iff_not, Bool.not_eq_true, Bool.not_eq_false, Bool.not_not, Bool.not_eq_eq_eq_not, Bool.not_true, Bool.not_false, Bool.false_eq_true, Bool.true_eq_false, ne_eq, Decidable.not_not, not_false_eq_true, not_true_eq_false] at c23
        have hc0 : (namedR (·.name) chanE t.chans [] 0).2 = 0 := by rw [hI, namedR_end (by omega)]
        refine exit ?_
        show Code.wp _ _ _ _ _
        refine seq ?_
        refine seq ?_
        refine region ?_
        refine sv (fa26_2 h1) ?_
        refine sv (yLdB rfl Tryz.isAgg23 (hS.at _) rfl) ?_
        refine sv (yLen rfl Tryz.underlying23) ?_
        refine sv (yGtr rfl rfl) ?_
        refine nil ?_
        show Code.wp _ _ _ _ _
        refine cond rfl (fun c36 => ?_) (fun c36 => ?_)
        ·
          simp only [Bool.and_eq_true, Bool.or_eq_true, Bool.and_eq_false_iff, Bool.or_eq_false_iff, decide_eq_true_eq, decide_eq_false_iff_not, Bool.not_eq_true, Bool.not_eq_false, Bool.not_not, Bool.not_eq_eq_eq_not, Bool.not_true, Bool.not_false, Bool.false_eq_true, Bool.true_eq_false, ne_eq, Decidable.not_not, not_false_eq_true, not_true_eq_false] at c36
          refine seq ?_
          refine region ?_
          refine sv (yAsg rfl) ?_
          refine sv (yAsg rfl) ?_
          refine sv (yAsg rfl) ?_
          refine nil ?_
          show Code.wp _ _ _ _ _
          have hfin : checkA t = (3, 0, 3) := by unfold checkA; rw [if_neg (by rw [h14]; decide), if_neg c18, if_neg (fun h => h hc0), if_pos c36]
          refine wp_ret (thenR ?_)
          exact retV (res3 rfl (fstI hfin) (thd1I hfin) (thd2I hfin)) hS.ext
        ·
          simp only [Bool.and_eq_true, Bool.or_eq_true, Bool.and_eq_false_iff, Bool.or_eq_false_iff, decide_eq_true_eq, decide_eq_false_iff_not, Bool.not_eq_true, Bool.not_eq_false, Bool.not_not, Bool.not_eq_eq_eq_not, Bool.not_true, Bool.not_false, Bool.false_eq_true, Bool.true_eq_false, ne_eq, Decidable.not_not, not_false_eq_true, not_true_eq_false] at c36
          refine skip ?_
          show Code.wp _ _ _ _ _
          refine seq ?_
          refine seq ?_
          refine region ?_
          refine sv (yAsg rfl) ?_
          refine nil ?_
          show Code.wp _ _ _ _ _
          refine block ?_
          refine loop (fun f w zz => ∃ (k : Nat), f 1 = .pointer (some ⟨b1, 0, none⟩) ∧ f 7 = .int .i64 (k : Int) ∧ StX [] w0 w [blk b1 [.int .i64 t.polders, .slice a1 t.chans.length cap1, .slice a2 t.towns.length cap2, .slice a3 t.floods.length cap3] 26] ∧ (k ≤ t.towns.length) ∧ (namedR (·.name) (townE t.polders t.chans.length) t.towns [] 0 = namedR (·.name) (townE t.polders t.chans.length) (t.towns.drop k) ((t.towns.take k).map (·.name)) k) ∧ zz = t.towns.length - k) _ ⟨_, rfl, 0, h1, rfl, hS, (Nat.zero_le _), (rfl), rfl⟩ ?_
          clear hS
          rintro f w _ ⟨k, h1, h7, hS, hk, hI, rfl⟩
          refine seq ?_
          refine seq ?_
          refine region ?_
          refine sv (yMove h7) ?_
          refine sv (fa26_2 h1) ?_
          refine sv (yLdB rfl Tryz.isAgg23 (hS.at _) rfl) ?_
          refine sv (yLen rfl Tryz.underlying23) ?_
          refine sv (yLss rfl rfl) ?_
          refine nil ?_
          show Code.wp _ _ _ _ _
          refine cond rfl (fun c41 => ?_) (fun c41 => ?_)
          ·
            simp only [Bool.and_eq_true, Bool.or_eq_true, Bool.and_eq_false_iff, Bool.or_eq_false_iff, decide_eq_true_eq, decide_eq_false_iff_not, Bool.not_eq_true, Bool.not_eq_false, Bool.not_not, Bool.not_eq_eq_eq_not, Bool.not_true, Bool.not_false, Bool.false_eq_true, Bool.true_eq_false, ne_eq, Decidable.not_not, not_false_eq_true, not_true_eq_false] at c41
            refine skip ?_
            show Code.wp _ _ _ _ _
            refine seq ?_
            refine block ?_
            refine seq ?_
            refine region ?_
            obtain ⟨x, hx, hd⟩ := drop_of (l := t.towns) (k := k) (by omega)
            refine sv (yLdBA h1 Tryz.isAgg26 Tryz.sizeOf26 (hS.at _) rfl rfl) ?_
            refine sv (yMove h7) ?_
            refine scall Tryz.call68 (.cons rfl (.cons rfl .nil)) (c_rtown (h.ext hS.ext) hx hp) ?_
            rintro _ w ⟨rfl, hE⟩; replace hS := hS.step hE; clear hE
            refine sv (yAsg rfl) ?_
            refine nil ?_
            show Code.wp _ _ _ _ _
            refine seq ?_
            refine region ?_
            refine sv (yMove rfl) ?_
            refine sv (yNeq rfl rfl) ?_
            refine nil ?_
            show Code.wp _ _ _ _ _
            refine cond rfl (fun c48 => ?_) (fun c48 => ?_)
            ·
              simp only [Bool.and_eq_true, Bool.or_eq_true, Bool.and_eq_false_iff, Bool.or_eq_false_iff, decide_eq_true_eq, decide_eq_false_iff_not, Bool.not_eq_true, Bool.not_eq_false, Bool.not_not, Bool.not_eq_eq_eq_not, Bool.not_true, Bool.not_false, Bool.false_eq_true, Bool.true_eq_false, ne_eq, Decidable.not_not, not_false_eq_true, not_true_eq_false] at c48
              refine seq ?_
              refine region ?_
              refine sv (yMove h7) ?_
              refine sv (yMove rfl) ?_
              refine sv (yAsg rfl) ?_
              refine sv (yAsg rfl) ?_
              refine sv (yAsg rfl) ?_
              refine nil ?_
              show Code.wp _ _ _ _ _
              have hNE : namedR (·.name) (townE t.polders t.chans.length) t.towns [] 0 = ((k : Int), errR (·.name) (townE t.polders t.chans.length) t.towns k x) := hI.trans (namedR_hit hd c48)
              have hfin : checkA t = (3, (k : Int), errR (·.name) (townE t.polders t.chans.length) t.towns k x) := by unfold checkA; rw [if_neg (by rw [h14]; decide), if_neg c18, if_neg (fun h => h hc0), if_neg c36, if_pos (by rw [hNE]; exact c48), hNE]
              refine wp_ret (blockR (thenR (thenR (blockR (thenR ?_)))))
              exact retV (res3 rfl (fstI hfin) (thd1I hfin) (thd2I hfin)) hS.ext
            ·
              simp only [Bool.and_eq_true, Bool.or_eq_true, Bool.and_eq_false_iff, Bool.or_eq_false_iff, decide_eq_true_eq, decide_eq_false_iff_not, Bool.not_eq_true, Bool.not_eq_false, Bool.not_not, Bool.not_eq_eq_eq_not, Bool.not_true, Bool.not_false, Bool.false_eq_true, Bool.true_eq_false, ne_eq, Decidable.not_not, not_false_eq_true, not_true_eq_false] at c48
              refine skip ?_
              show Code.wp _ _ _ _ _
              refine region ?_
              refine sv (yMove h7) ?_
              refine sv (yAdd rfl rfl ⟨by omega, by omega⟩) ?_
              refine sv (yAsg rfl) ?_
              refine nil ?_
              exact ⟨_, _, rfl, ⟨k + 1, h1, rfl, hS, (by omega), (by rw [hI]; exact namedR_step hx hd c48), rfl⟩, by omega⟩
          ·
            simp only [Bool.and_eq_true, Bool.or_eq_true, Bool.and_eq_false_iff, Bool.or_eq_false_iff, decide_eq_true_eq, decide_eq_false_iff_not, Bool.not_eq_true, Bool.not_eq_false, Bool.not_not, Bool.not_eq_eq_eq_not, Bool.not_true, Bool.not_false, Bool.false_eq_true, Bool.true_eq_false, ne_eq, Decidable.not_not, not_false_eq_true, not_true_eq_false] at c41
            have ht0 : (namedR (·.name) (townE t.polders t.chans.length) t.towns [] 0).2 = 0 := by rw [hI, namedR_end (by omega)]
            refine exit ?_
            show Code.wp _ _ _ _ _
            refine seq ?_
            refine seq ?_
            refine region ?_
            refine sv (fa26_3 h1) ?_
            refine sv (yLdB rfl Tryz.isAgg24 (hS.at _) rfl) ?_
            refine sv (yLen rfl Tryz.underlying24) ?_
            refine scall Tryz.call66 (.cons rfl (.cons rfl (.cons rfl .nil))) c_rin ?_
            rintro _ w ⟨rfl, hE⟩; replace hS := hS.step hE; clear hE
            refine sv (yNot rfl) ?_
            refine nil ?_
            show Code.wp _ _ _ _ _
            refine cond rfl (fun c55 => ?_) (fun c55 => ?_)
            ·
              have h55 : outB t.floods.length 1 8 = true := by rw [← inB_not]; exact c55
              refine seq ?_
              refine region ?_
              refine sv (yAsg rfl) ?_
              refine sv (yAsg rfl) ?_
              refine sv (yAsg rfl) ?_
              refine nil ?_
              show Code.wp _ _ _ _ _
              have hfin : checkA t = (4, 0, 3) := by unfold checkA; rw [if_neg (by rw [h14]; decide), if_neg c18, if_neg (fun h => h hc0), if_neg c36, if_neg (fun h => h ht0), if_pos h55]
              refine wp_ret (thenR ?_)
              exact retV (res3 rfl (fstI hfin) (thd1I hfin) (thd2I hfin)) hS.ext
            ·
              have h55 : outB t.floods.length 1 8 = false := by rw [← inB_not]; exact c55
              refine skip ?_
              show Code.wp _ _ _ _ _
              refine seq ?_
              refine seq ?_
              refine region ?_
              refine sv (yAsg rfl) ?_
              refine nil ?_
              show Code.wp _ _ _ _ _
              refine block ?_
              refine loop (fun f w zz => ∃ (k : Nat), f 1 = .pointer (some ⟨b1, 0, none⟩) ∧ f 9 = .int .i64 (k : Int) ∧ StX [] w0 w [blk b1 [.int .i64 t.polders, .slice a1 t.chans.length cap1, .slice a2 t.towns.length cap2, .slice a3 t.floods.length cap3] 26] ∧ (k ≤ t.floods.length) ∧ (firstR (floodE t.polders) t.floods 0 = firstR (floodE t.polders) (t.floods.drop k) k) ∧ zz = t.floods.length - k) _ ⟨_, rfl, 0, h1, rfl, hS, (Nat.zero_le _), (rfl), rfl⟩ ?_
              clear hS
              rintro f w _ ⟨k, h1, h9, hS, hk, hI, rfl⟩
              refine seq ?_
              refine seq ?_
              refine region ?_
              refine sv (yMove h9) ?_
              refine sv (fa26_3 h1) ?_
              refine sv (yLdB rfl Tryz.isAgg24 (hS.at _) rfl) ?_
              refine sv (yLen rfl Tryz.underlying24) ?_
              refine sv (yLss rfl rfl) ?_
              refine nil ?_
              show Code.wp _ _ _ _ _
              refine cond rfl (fun c60 => ?_) (fun c60 => ?_)
              ·
                simp only [Bool.and_eq_true, Bool.or_eq_true, Bool.and_eq_false_iff, Bool.or_eq_false_iff, decide_eq_true_eq, decide_eq_false_iff_not, Bool.not_eq_true, Bool.not_eq_false, Bool.not_not, Bool.not_eq_eq_eq_not, Bool.not_true, Bool.not_false, Bool.false_eq_true, Bool.true_eq_false, ne_eq, Decidable.not_not, not_false_eq_true, not_true_eq_false] at c60
                obtain ⟨l, hxl, hdl⟩ := drop_of (l := t.floods) (k := k) (by omega)
                obtain ⟨bl, ol, csl, hal, hlenl, hcsl, hRl⟩ := hel3 (k) (by omega)
                obtain rfl : l = t.floods[k] := (List.getElem?_eq_some_iff.1 hxl).2.symm
                generalize t.floods[k] = l at hxl hdl hRl
                have hR1 := hRl
                obtain ⟨lv, rfl, hsl⟩ := id hR1
                obtain ⟨al, cl2, rfl, hlcap, hlmx, hlel⟩ := id hsl
                refine skip ?_
                show Code.wp _ _ _ _ _
                refine seq ?_
                refine block ?_
                refine seq ?_
                refine seq ?_
                refine region_draw mixed (by kernel_rfl) hS ?_
                refine qv (fun w hS => (fa26_3 h1)) ?_
                refine qv (fun w hS => (yLdB rfl Tryz.isAgg24 (hS.at _) rfl)) ?_
                refine qv (fun w hS => (yMove h9)) ?_
                refine qv (fun w hS => (yIxa rfl hal rfl Tryz.runUnderlying24 Tryz.sizeOf34 (by omega) (by omega))) ?_
                refine qv (fun w hS => (yLd rfl Tryz.isAgg34 ((hcsl.ext hS.ext).one))) ?_
                refine qv (fun w hS => (yLen rfl Tryz.underlying34)) ?_
                refine qv (fun w hS => (fa26_0 h1)) ?_
                refine qv (fun w hS => (yLdB rfl Tryz.isAgg3 (hS.at _) rfl)) ?_
                refine qv (fun w hS => (yNeq rfl rfl)) ?_
                clear hS; refine qnil (fun w hS => ?_)
                show Code.wp _ _ _ _ _
                refine cond rfl (fun c71 => ?_) (fun c71 => ?_)
                ·
                  simp only [Bool.and_eq_true, Bool.or_eq_true, Bool.and_eq_false_iff, Bool.or_eq_false_iff, decide_eq_true_eq, decide_eq_false_iff_not, Bool.not_eq_true, Bool.not_eq_false, Bool.not_not, Bool.not_eq_eq_eq_not, Bool.not_true, Bool.not_false, Bool.false_eq_true, Bool.true_eq_false, ne_eq, Decidable.not_not, not_false_eq_true, not_true_eq_false] at c71
                  refine seq ?_
                  refine region ?_
                  refine sv (yMove h9) ?_
                  refine sv (yAsg rfl) ?_
                  refine sv (yAsg rfl) ?_
                  refine sv (yAsg rfl) ?_
                  refine nil ?_
                  show Code.wp _ _ _ _ _
                  have hfe : floodE t.polders l = 2 := by unfold floodE; rw [if_pos c71]
                  have hFR : firstR (floodE t.polders) t.floods 0 = ((k : Int), 2) := by rw [hI, hdl, firstR, if_pos (by rw [hfe]; decide), hfe]
                  have hfin : checkA t = (4, (k : Int), 2) := by unfold checkA; rw [if_neg (by rw [h14]; decide), if_neg c18, if_neg (fun h => h hc0), if_neg c36, if_neg (fun h => h ht0), if_neg (by rw [h55]; decide), if_pos (by rw [hFR]; show (2 : Int) ≠ 0; decide), hFR]
                  refine wp_ret (thenR (blockR (thenR (thenR (blockR (thenR ?_))))))
                  exact retV (res3 rfl (fstI hfin) (thd1I hfin) (thd2I hfin)) hS.ext
                ·
                  simp only [Bool.and_eq_true, Bool.or_eq_true, Bool.and_eq_false_iff, Bool.or_eq_false_iff, decide_eq_true_eq, decide_eq_false_iff_not, Bool.not_eq_true, Bool.not_eq_false, Bool.not_not, Bool.not_eq_eq_eq_not, Bool.not_true, Bool.not_false, Bool.false_eq_true, Bool.true_eq_false, ne_eq, Decidable.not_not, not_false_eq_true, not_true_eq_false] at c71
                  refine skip ?_
                  show Code.wp _ _ _ _ _
                  refine seq ?_
                  refine region ?_
                  refine sv (yAsg rfl) ?_
                  refine nil ?_
                  show Code.wp _ _ _ _ _
                  refine block ?_
                  refine loop (fun f w zz => ∃ (j : Nat), f 1 = .pointer (some ⟨b1, 0, none⟩) ∧ f 9 = .int .i64 (k : Int) ∧ f 10 = .int .i64 (j : Int) ∧ StX [] w0 w [blk b1 [.int .i64 t.polders, .slice a1 t.chans.length cap1, .slice a2 t.towns.length cap2, .slice a3 t.floods.length cap3] 26] ∧ (j ≤ l.length) ∧ (∀ q, q < j → ∀ z, l[q]? = some z → outB z (-1) 200000 = false) ∧ zz = l.length - j) _ ⟨_, rfl, 0, h1, h9, rfl, hS, (Nat.zero_le _), (fun q hq => absurd hq (Nat.not_lt_zero q)), rfl⟩ ?_
                  clear hS
                  rintro f w _ ⟨j, h1, h9, h10, hS, hj, hM, rfl⟩
                  refine seq ?_
                  refine seq ?_
                  refine region ?_
                  refine sv (yMove h10) ?_
                  refine sv (fa26_3 h1) ?_
                  refine sv (yLdB rfl Tryz.isAgg24 (hS.at _) rfl) ?_
                  refine sv (yMove h9) ?_
                  refine sv (yIxa rfl hal rfl Tryz.runUnderlying24 Tryz.sizeOf34 (by omega) (by omega)) ?_
                  refine sv (yLd rfl Tryz.isAgg34 ((hcsl.ext hS.ext).one)) ?_
                  refine sv (yLen rfl Tryz.underlying34) ?_
                  refine sv (yLss rfl rfl) ?_
                  refine nil ?_
                  show Code.wp _ _ _ _ _
                  refine cond rfl (fun c80 => ?_) (fun c80 => ?_)
                  ·
                    simp only [Bool.and_eq_true, Bool.or_eq_true, Bool.and_eq_false_iff, Bool.or_eq_false_iff, decide_eq_true_eq, decide_eq_false_iff_not, Bool.not_eq_true, Bool.not_eq_false, Bool.not_not, Bool.not_eq_eq_eq_not, Bool.not_true, Bool.not_false, Bool.false_eq_true, Bool.true_eq_false, ne_eq, Decidable.not_not, not_false_eq_true, not_true_eq_false] at c80
                    obtain ⟨z, hxz, hdz⟩ := drop_of (l := l) (k := j) (by omega)
                    obtain ⟨bz, oz, csz, haz, hlenz, hcsz, hRz⟩ := hlel (j) (by omega)
                    obtain rfl : z = l[j] := (List.getElem?_eq_some_iff.1 hxz).2.symm
                    generalize l[j] = z at hxz hdz hRz
                    obtain ⟨rfl, hzi⟩ := hRz
                    refine skip ?_
                    show Code.wp _ _ _ _ _
                    refine seq ?_
                    refine block ?_
                    refine seq ?_
                    refine region ?_
                    refine sv (fa26_3 h1) ?_
                    refine sv (yLdB rfl Tryz.isAgg24 (hS.at _) rfl) ?_
                    refine sv (yMove h9) ?_
                    refine sv (yIxa rfl hal rfl Tryz.runUnderlying24 Tryz.sizeOf34 (by omega) (by omega)) ?_
                    refine sv (yLd rfl Tryz.isAgg34 ((hcsl.ext hS.ext).one)) ?_
                    refine sv (yMove h10) ?_
                    refine sv (yIxa rfl haz rfl Tryz.runUnderlying34 Tryz.sizeOf3 (by omega) (by omega)) ?_
                    refine sv (yLd rfl Tryz.isAgg3 ((hcsz.ext hS.ext).one)) ?_
                    refine scall Tryz.call66 (.cons rfl (.cons rfl (.cons rfl .nil))) c_rin ?_
                    rintro _ w ⟨rfl, hE⟩; replace hS := hS.step hE; clear hE
                    refine sv (yNot rfl) ?_
                    refine nil ?_
                    show Code.wp _ _ _ _ _
                    refine cond rfl (fun c92 => ?_) (fun c92 => ?_)
                    ·
                      have h92 : outB z (-1) 200000 = true := by rw [← inB_not]; exact c92
                      refine seq ?_
                      refine region ?_
                      refine sv (yMove h9) ?_
                      refine sv (yAsg rfl) ?_
                      refine sv (yAsg rfl) ?_
                      refine sv (yAsg rfl) ?_
                      refine nil ?_
                      show Code.wp _ _ _ _ _
                      have hfe : floodE t.polders l = 7 := by unfold floodE; rw [if_neg (fun h => h c71), if_pos (List.any_eq_true.2 ⟨z, List.mem_of_getElem? hxz, h92⟩)]
                      have hFR : firstR (floodE t.polders) t.floods 0 = ((k : Int), 7) := by rw [hI, hdl, firstR, if_pos (by rw [hfe]; decide), hfe]
                      have hfin : checkA t = (4, (k : Int), 7) := by unfold checkA; rw [if_neg (by rw [h14]; decide), if_neg c18, if_neg (fun h => h hc0), if_neg c36, if_neg (fun h => h ht0), if_neg (by rw [h55]; decide), if_pos (by rw [hFR]; show (7 : Int) ≠ 0; decide), hFR]
                      refine wp_ret (blockR (thenR (thenR (blockR (blockR (thenR (thenR (blockR (thenR ?_)))))))))
                      exact retV (res3 rfl (fstI hfin) (thd1I hfin) (thd2I hfin)) hS.ext
                    ·
                      have h92 : outB z (-1) 200000 = false := by rw [← inB_not]; exact c92
                      refine skip ?_
                      show Code.wp _ _ _ _ _
                      refine region ?_
                      refine sv (yMove h10) ?_
                      refine sv (yAdd rfl rfl ⟨by omega, by omega⟩) ?_
                      refine sv (yAsg rfl) ?_
                      refine nil ?_
                      exact ⟨_, _, rfl, ⟨j + 1, h1, h9, rfl, hS, (by omega), (snoc hM (fun v hv => by cases Option.some.inj (hxz.symm.trans hv); exact h92)), rfl⟩, by omega⟩
                  ·
                    simp only [Bool.and_eq_true, Bool.or_eq_true, Bool.and_eq_false_iff, Bool.or_eq_false_iff, decide_eq_true_eq, decide_eq_false_iff_not, Bool.not_eq_true, Bool.not_eq_false, Bool.not_not, Bool.not_eq_eq_eq_not, Bool.not_true, Bool.not_false, Bool.false_eq_true, Bool.true_eq_false, ne_eq, Decidable.not_not, not_false_eq_true, not_true_eq_false] at c80
                    refine exit ?_
                    show Code.wp _ _ _ _ _
                    refine region ?_
                    refine sv (yMove h9) ?_
                    refine sv (yAdd rfl rfl ⟨by omega, by omega⟩) ?_
                    refine sv (yAsg rfl) ?_
                    refine nil ?_
                    obtain rfl : j = l.length := by omega
                    have hfe : floodE t.polders l = 0 := by unfold floodE; rw [if_neg (fun h => h c71), if_neg (fun hh => by obtain ⟨z, hz, hb⟩ := List.any_eq_true.1 hh; obtain ⟨q, hq, rfl⟩ := List.mem_iff_getElem.1 hz; rw [hM q hq _ (List.getElem?_eq_getElem hq)] at hb; cases hb)]
                    exact ⟨_, _, rfl, ⟨k + 1, h1, rfl, hS, (by omega), (by rw [hI, hdl, firstR, if_neg (fun h => h hfe)]; rfl), rfl⟩, by omega⟩
              ·
                simp only [Bool.and_eq_true, Bool.or_eq_true, Bool.and_eq_false_iff, Bool.or_eq_false_iff, decide_eq_true_eq, decide_eq_false_iff_not, Bool.not_eq_true, Bool.not_eq_false, Bool.not_not, Bool.not_eq_eq_eq_not, Bool.not_true, Bool.not_false, Bool.false_eq_true, Bool.true_eq_false, ne_eq, Decidable.not_not, not_false_eq_true, not_true_eq_false] at c60
                obtain rfl : k = t.floods.length := by omega
                have hFR : firstR (floodE t.polders) t.floods 0 = (0, 0) := by rw [hI, List.drop_length]; rfl
                refine exit ?_
                show Code.wp _ _ _ _ _
                refine seq ?_
                refine region ?_
                refine sv (yAsg rfl) ?_
                refine sv (yAsg rfl) ?_
                refine sv (yAsg rfl) ?_
                refine nil ?_
                show Code.wp _ _ _ _ _
                have hfin : checkA t = (0, 0, 0) := by unfold checkA; rw [if_neg (by rw [h14]; decide), if_neg c18, if_neg (fun h => h hc0), if_neg c36, if_neg (fun h => h ht0), if_neg (by rw [h55]; decide), if_neg (fun h => h (by rw [hFR]))]
                refine wp_ret ?_
                exact retV (res3 rfl (fstI hfin) (thd1I hfin) (thd2I hfin)) hS.ext
end Go.Proofs.YtmoilbakmlekbaaGreatDoor

/- part LibB1 -/
namespace Bx
open Go Go.RowKit
def fromA (a : Option Addr) (cap i k : Nat) : Option Addr := if cap = i then a else a.map (·.add (i * k))
section
variable {P : Program} {ρ : Operand → Value} {w : World} {ty : TypeId}
theorem yFromA {T E : TypeId} {x xi : Operand} {a : Option Addr} {cap i k m : Nat} {kd : IntKind} (hx : ρ x = .slice a m cap) (hi : ρ xi = .int kd (i : Int)) (hu : P.underlying T = some (.slice E)) (hs : ∀ w, (Go.sizeOf E).run P w = .ok k w) (hm : i ≤ m) :
    Y P ρ (.slice T x (some xi) none none) ty w (.slice (fromA a cap i k) (m - i) (cap - i)) w := by
  have hb : (0 : Int) ≤ (i : Int) ∧ (i : Int) ≤ (m : Int) := ⟨by omega, by omega⟩
  simp only [Y, xop, execOp, Option.map_some, Option.map_none, hx, hi, Instr.sliceAt, run_underlying hu, Sem.run_bind, Result.andThen_ok, Instr.slice, Instr.sliceBounds, Instr.sliceBound, asIntOf, Sem.run_pure, Sem.run_ite, hb, and_self, if_true, hs, Int.toNat_natCast, fromA]
end
theorem Sl.drop {α : Type} {w : World} {k : Nat} {R : World → List Value → α → Prop} {a : Option Addr} {n cap i : Nat} {l : List α} (h : Sl w k R (.slice a n cap) l) (hi : i ≤ n) : Sl w k R (.slice (fromA a cap i k) (n - i) (cap - i)) (l.drop i) := by
  obtain ⟨a', cap', hv, h1, h2, h3⟩ := h
  simp only [Value.slice.injEq] at hv
  obtain ⟨rfl, rfl, rfl⟩ := hv
  refine ⟨_, _, by rw [List.length_drop], by rw [List.length_drop]; omega, by omega, fun j hj => ?_⟩
  rw [List.length_drop] at hj
  obtain ⟨b, o, cs, ha, hlc, hc, hr⟩ := h3 (i + j) (by omega)
  refine ⟨b, o + i * k, cs, ?_, hlc, ?_, by rw [List.getElem_drop]; exact hr⟩
  · unfold fromA
    rw [if_neg (by omega), ha, Option.map_some, addr_add]
  · rw [show o + i * k + j * k = o + (i + j) * k by rw [Nat.add_mul]; omega]; exact hc
theorem Sl.fit {α : Type} {w : World} {k : Nat} {R : World → List Value → α → Prop} {a : Option Addr} {n cap : Nat} {l : List α} (h : Sl w k R (.slice a n cap) l) : n ≤ cap := by
  obtain ⟨a', cap', hv, h1, -⟩ := h
  simp only [Value.slice.injEq] at hv
  omega
/-- What a slice holds, as it is written out, where each part has one writing. -/
theorem encs_news {α : Type} {enc : α → List Value} {k : Nat} {R : World → List Value → α → Prop} (hR : ∀ w cs x, R w cs x → cs = enc x) {w : World} {a : Option Addr} {cap : Nat} {l : List α} (h : Sl w k R (.slice a l.length cap) l) : 0 < l.length → ∃ b o, a = some ⟨b, o, none⟩ ∧ Cells w b o (l.flatMap enc) := by
  obtain ⟨css, hr, hc⟩ := sl_news h
  have e : ∀ {css : List (List Value)} {l : List α}, Bx.Rows w k R css l → css.flatten = l.flatMap enc := by
    intro css
    induction css with
    | nil => intro l h; cases l with
      | nil => rfl
      | cons x l => exact h.elim
    | cons c css ih => intro l h; cases l with
      | nil => exact h.elim
      | cons x l =>
        obtain ⟨_, h2, h3⟩ := h
        rw [List.flatten_cons, List.flatMap_cons, hR _ _ _ h2, ih h3]
  rw [← e hr]; exact hc
end Bx

/- part A25 -/
namespace Bx
open Go Go.RowKit
theorem arrS_skip {x : Town} {s : Span × Int} {l : List Int} (h : fld x l < 0) : arrStep x s l = s := if_pos h
theorem arrS_zero {x : Town} {s : Span × Int} {l : List Int} (h : ¬ fld x l < 0) (h0 : s.2 = 0) : arrStep x s l = (⟨min (fld x l + x.travel) (fld x l + x.travel), max (fld x l + x.travel) (fld x l + x.travel)⟩, s.2 + 1) := by
  unfold fld at *
  unfold arrStep
  rw [if_neg h, if_pos h0, h0, Int.min_self, Int.max_self]; rfl
theorem arrS_more {x : Town} {s : Span × Int} {l : List Int} (h : ¬ fld x l < 0) (h0 : ¬ s.2 = 0) : arrStep x s l = (⟨min s.1.lo (fld x l + x.travel), max s.1.hi (fld x l + x.travel)⟩, s.2 + 1) := by
  unfold fld at *
  unfold arrStep
  rw [if_neg h, if_neg h0]
theorem arrP_bd {t : Task} (ht : TaskOk t) {x : Town} (hx : TownOk t x) (k : Nat) : ((0 ≤ (arrP t x k).1.lo ∧ (arrP t x k).1.lo ≤ 200500) ∧ (0 ≤ (arrP t x k).1.hi ∧ (arrP t x k).1.hi ≤ 200500)) ∧ 0 ≤ (arrP t x k).2 ∧ (arrP t x k).2 ≤ 8 := by
  have := fold_bd ht hx k
  simp only at this
  unfold arrP
  omega
theorem fld_at {t : Task} (hok : TaskOk t) {i : Int} (hi : 0 ≤ i ∧ i < t.towns.length) {l : List Int} (hl : l ∈ t.floods) : l[(twn t i).polder.toNat]? = some (fld (twn t i) l) ∧ -1 ≤ fld (twn t i) l ∧ fld (twn t i) l ≤ 200000 := by
  have hf := hok.flood l hl
  have hp := (town_ok hok hi).pol
  have hin : (twn t i).polder.toNat < l.length := by omega
  have e : fld (twn t i) l = l[(twn t i).polder.toNat] := by unfold fld; simp [List.getD, hin]
  rw [e]
  exact ⟨List.getElem?_eq_getElem hin, hf.2 _ (List.getElem_mem hin)⟩
theorem ofE_yes {t : Task} {i : Int} (h : (decide ((checkA t).2.2 = 0) && !inB i 0 ((t.towns.length : Int) - 1)) = true) : ofE t i = 4 := by
  rw [Bool.and_eq_true, decide_eq_true_eq, inB_not] at h
  unfold ofE
  rw [if_neg (fun k => k h.1), if_pos h.2]
theorem ofE_no {t : Task} {i : Int} (h : (decide ((checkA t).2.2 = 0) && !inB i 0 ((t.towns.length : Int) - 1)) = false) : ofE t i = (checkA t).2.2 := by
  rw [Bool.and_eq_false_iff, decide_eq_false_iff_not, inB_not] at h
  unfold ofE
  split
  next => rfl
  next h1 => rw [if_neg (by rw [h.resolve_left (fun k => k (Decidable.not_not.1 h1))]; decide)]; omega
theorem stage_2 {t : Task} {i now : Int} (h0 : ¬ (arr t i).2 = 0) (h : (decide ((arr t i).2 = t.floods.length) || decide ((arr t i).1.lo - (twn t i).lead ≤ now)) = true) : stageF t i now = 2 := by
  rw [Bool.or_eq_true, decide_eq_true_eq, decide_eq_true_eq] at h
  unfold stageF actF
  rw [if_neg h0]
  rcases h with h | h
  · rw [if_pos h]
  · rw [if_pos h]; split <;> rfl
theorem stage_1 {t : Task} {i now : Int} (h0 : ¬ (arr t i).2 = 0) (h : (decide ((arr t i).2 = t.floods.length) || decide ((arr t i).1.lo - (twn t i).lead ≤ now)) = false) : stageF t i now = 1 := by
  rw [Bool.or_eq_false_iff, decide_eq_false_iff_not, decide_eq_false_iff_not] at h
  unfold stageF actF
  rw [if_neg h0, if_neg h.1, if_neg h.2]
def prv (log : List Msg) (k : Nat) : Int := if k = 0 then 0 else (log.getD (k - 1) ⟨0, 0, 0, 0, 0⟩).sent
theorem prv_succ {log : List Msg} {k : Nat} {x : Msg} (h : log[k]? = some x) : prv log (k + 1) = x.sent := by
  unfold prv
  rw [if_neg (by omega), Nat.add_sub_cancel, getD_hit h]
def badR (t : Task) (x : Msg) (k : Nat) (p : Int) : Bool := ((((decide (x.number ≠ (k : Int) + 1) || !inB x.town 0 ((t.towns.length : Int) - 1)) || !inB x.stage 0 2) || !inB x.channel 0 ((t.chans.length : Int) - 1)) || !inB x.sent 0 200000) || (decide (0 < (k : Int)) && decide (x.sent < p))
theorem badR_eq {t : Task} {x : Msg} {k : Nat} {p q : Int} (h0 : 0 ≤ q) (hp : 0 < (k : Int) → p = q) (hz : k = 0 → q = 0) : badR t x k p = badM t x k q := by
  unfold badR badM
  simp only [inB_not, Bool.or_assoc]
  congr 4
  rw [Bool.eq_iff_iff]
  simp only [outB, Bool.or_eq_true, Bool.and_eq_true, decide_eq_true_eq]
  by_cases hk : 0 < (k : Int)
  · rw [hp hk]; omega
  · rw [hz (by omega)]; omega
theorem wrong_step {t : Task} {log : List Msg} {k : Nat} {x : Msg} (hd : log.drop k = x :: log.drop (k + 1)) (hx : log[k]? = some x) (hb : badM t x k (prv log k) = false) : wrongL t (log.drop k) k (prv log k) = wrongL t (log.drop (k + 1)) ((k + 1 : Nat) : Int) (prv log (k + 1)) := by
  rw [hd, wrongL, if_neg (by rw [hb]; decide), prv_succ hx]; rfl
theorem wrong_hit {t : Task} {log : List Msg} {k : Nat} {x : Msg} (hd : log.drop k = x :: log.drop (k + 1)) (hb : badM t x k (prv log k) = true) : wrongL t (log.drop k) k (prv log k) = 6 := by
  rw [hd, wrongL, if_pos hb]
theorem badM_sent {t : Task} {x : Msg} {i b : Int} (h : badM t x i b = false) (hb : 0 ≤ b) : 0 ≤ x.sent := by
  simp only [badM, Bool.or_eq_false_iff, outB_false] at h
  omega
def knS (t : Task) (i tk : Int) (log : List Msg) : Int × Int := log.foldl (fun o x => if hitM t i tk x = true then (x.stage, x.number) else o) (0, 0)
theorem knS_snoc (t : Task) (i tk : Int) (log : List Msg) (x : Msg) : knS t i tk (log ++ [x]) = if hitM t i tk x = true then (x.stage, x.number) else knS t i tk log := by unfold knS; rw [List.foldl_append]; rfl
theorem knS_bk {t : Task} {i tk : Int} {log : List Msg} : ∀ k, k ≤ log.length → knS t i tk (log.take k) = match (bk log k).find? (hitB t i tk) with | none => (0, 0) | some y => (y.2.stage, y.2.number)
  | 0, _ => rfl
  | k + 1, h => by
    obtain ⟨x, hx, -⟩ := drop_of (l := log) (k := k) (by omega)
    rw [take_snoc hx, knS_snoc, bk_hit hx, List.find?_cons]
    have e : hitB t i tk ((k : Int), x) = hitM t i tk x := rfl
    rw [e]
    cases hq : hitM t i tk x with
    | true => rfl
    | false => exact knS_bk k (by omega)
theorem knowsR_S {t : Task} {log : List Msg} {i tk : Int} (h : knowsE t log i tk = 0) : knowsR t log i tk = ((knS t i tk log).1, (knS t i tk log).2, 0) := by
  have e := knS_bk (t := t) (i := i) (tk := tk) (log := log) log.length (Nat.le_refl _)
  rw [List.take_length] at e
  rw [e]
  unfold knowsR knowO
  rw [if_neg (fun h' => h' h)]
  cases (bk log log.length).find? (hitB t i tk) <;> rfl
def byStep (t : Task) (all : List Msg) (now : Int) (o : Int) (c : Int) : Int := if usedF all now c < (chn t c).room ∧ (o < 0 ∨ (chn t c).delay < (chn t o).delay) then c else o
def byR (t : Task) (all : List Msg) (now : Int) (cs : List Int) : Int := cs.foldl (byStep t all now) (-1)
theorem byR_snoc (t : Task) (all : List Msg) (now : Int) (cs : List Int) (c : Int) : byR t all now (cs ++ [c]) = byStep t all now (byR t all now cs) c := by unfold byR; rw [List.foldl_append]; rfl
theorem ins_last {f : Int → Int} {x : Int} : ∀ {p : List Int}, (p.Pairwise fun a b => f b ≤ f a) → (insV f x p).getLast? = match p.getLast? with | none => some x | some z => if f x < f z then some x else some z
  | [], _ => rfl
  | y :: p, h => by
    have h1 := List.pairwise_cons.1 h
    have ih := ins_last (f := f) (x := x) h1.2
    rw [insV]
    cases hp : p.getLast? with
    | none =>
      obtain rfl : p = [] := by simpa using hp
      by_cases hlt : f x < f y
      · rw [if_pos hlt]; simp [insV, hlt]
      · rw [if_neg hlt]; simp [hlt]
    | some z =>
      have hz : z ∈ p := List.mem_of_getLast? hp
      have hne : p ≠ [] := by rintro rfl; cases hp
      have e1 : (y :: p).getLast? = some z := by rw [List.getLast?_cons_of_ne_nil hne]; exact hp
      rw [e1]
      rw [hp] at ih
      by_cases hlt : f x < f y
      · rw [if_pos hlt, List.getLast?_cons_of_ne_nil (by intro e; have := (insV_perm f x p).length_eq; rw [e] at this; simp at this)]
        exact ih
      · have := h1.1 z hz
        rw [if_neg hlt, List.getLast?_cons_of_ne_nil (by simp), e1]
        show some z = if f x < f z then some x else some z
        rw [if_neg (by omega)]
theorem sortR_keys (f : Int → Int) (l : List Int) : (sortR f l).Pairwise fun a b => f b ≤ f a := by
  have := sortV_keys (f := f) l
  unfold sortV at this
  exact List.pairwise_reverse.1 this
theorem sortV_head (f : Int → Int) (l : List Int) (x : Int) : (sortV f (l ++ [x])).head? = match (sortV f l).head? with | none => some x | some z => if f x < f z then some x else some z := by
  unfold sortV
  rw [List.head?_reverse, List.head?_reverse, sortR_snoc]
  exact ins_last (sortR_keys f l)
def byG (t : Task) (all : List Msg) (now : Int) (cs : List Int) : Option Int := (sortV (fun c => (chn t c).delay) (cs.filter fun c => !decide (roomF t all now c ≤ 0))).head?
theorem byF_G (t : Task) (all : List Msg) (now i : Int) : byF t all now i = byG t all now (twn t i).chans := rfl
theorem by_same {t : Task} {all : List Msg} {now : Int} (cs : List Int) (h : ∀ c ∈ cs, 0 ≤ c) : (byG t all now cs = none ∧ byR t all now cs = -1) ∨ ∃ c, byG t all now cs = some c ∧ byR t all now cs = c ∧ c ∈ cs := by
  induction cs using snocR with
  | h0 => exact .inl ⟨rfl, rfl⟩
  | h1 l x ih =>
    have ih := ih fun c hc => h c (List.mem_append_left _ hc)
    have hx := h x (by simp)
    have hr : (!decide (roomF t all now x ≤ 0)) = decide (usedF all now x < (chn t x).room) := by
      unfold roomF
      rw [Bool.eq_iff_iff]; simp; try omega
    rw [byR_snoc]
    unfold byG at ih ⊢
    rw [List.filter_append]
    by_cases hu : usedF all now x < (chn t x).room
    · rw [List.filter_cons_of_pos (by rw [hr]; simpa using hu), List.filter_nil, sortV_head]
      rcases ih with ⟨i1, i2⟩ | ⟨c, i1, i2, i3⟩
      · rw [i1, i2]
        refine .inr ⟨x, rfl, ?_, by simp⟩
        unfold byStep; rw [if_pos ⟨hu, .inl (by decide)⟩]
      · rw [i1, i2]
        have hc := h c (List.mem_append_left _ i3)
        unfold byStep
        by_cases hd : (chn t x).delay < (chn t c).delay
        · exact .inr ⟨x, if_pos hd, if_pos ⟨hu, .inr hd⟩, by simp⟩
        · exact .inr ⟨c, if_neg hd, if_neg (fun h => by rcases h.2 with h | h; omega; exact hd h), by simp [i3]⟩
    · rw [List.filter_cons_of_neg (by rw [hr]; simpa using hu), List.filter_nil, List.append_nil]
      have e : byStep t all now (byR t all now l) x = byR t all now l := by unfold byStep; rw [if_neg (fun h => hu h.1)]
      rw [e]
      rcases ih with ih | ⟨c, i1, i2, i3⟩
      · exact .inl ih
      · exact .inr ⟨c, i1, i2, by simp [i3]⟩
end Bx

/- part Aw30 -/
namespace Go.Proofs.YtmoilbakmlekbaaGreatDoor
open Go Bx
/-- barrage/barrageref11.good -/
theorem c_rgood {t : Task} {hv nv fv : Value} {w0 : World} (h : RTask w0 [.int .i64 t.polders, hv, nv, fv] t) : CV Tryz.prog 77 #[.agg [.int .i64 t.polders, hv, nv, fv].toArray] w0 (.int .i64 (checkA t).2.2) := by
  obtain ⟨hv', nv', fv', he0, hpol, hsh, hsn, hsf⟩ := id h
  obtain ⟨rfl, rfl, rfl⟩ : hv' = hv ∧ nv' = nv ∧ fv' = fv := by simpa [eq_comm] using he0
  obtain ⟨a1, cap1, rfl, hcap1, hmx1, hel1⟩ := id hsh
  obtain ⟨a2, cap2, rfl, hcap2, hmx2, hel2⟩ := id hsn
  obtain ⟨a3, cap3, rfl, hcap3, hmx3, hel3⟩ := id hsf
  refine enter Tryz.func77 rfl Tryz.ntmps77 rfl ?_
  have hS := St.start w0
  refine seq ?_
  refine region ?_
  refine sbox hS rfl rfl ?_; clear hS; intro b1 w hS
  refine sv (yAsg rfl) ?_
  refine nil ?_
  show Code.wp _ _ _ _ _
  refine seq ?_
  refine region ?_
  refine sv (yLdBA rfl Tryz.isAgg26 Tryz.sizeOf26 (hS.at _) rfl rfl) ?_
  refine scall Tryz.call22 (.cons rfl .nil) (c_rCheck (h.ext hS.ext)) ?_
  rintro _ w ⟨rfl, hE⟩; replace hS := hS.step hE; clear hE
  refine sv (yMove rfl) ?_
  refine sv (yExt rfl rfl) ?_
  refine sv (yExt rfl rfl) ?_
  refine sv (yExt rfl rfl) ?_
  refine sv (yAsg rfl) ?_
  refine sv (yAsg rfl) ?_
  refine sv (yAsg rfl) ?_
  refine nil ?_
  show Code.wp _ _ _ _ _
  refine seq ?_
  refine region ?_
  refine sv (yMove rfl) ?_
  refine sv (yAsg rfl) ?_
  refine nil ?_
  show Code.wp _ _ _ _ _
  refine wp_ret ?_
  exact retV (res1 rfl rfl) hS.ext
set_option maxHeartbeats 1000000 in
/-- barrage/barrageref11.asked -/
theorem c_rasked {t : Task} {hv nv fv : Value} {i : Int} {w0 : World} (h : RTask w0 [.int .i64 t.polders, hv, nv, fv] t) : CV Tryz.prog 70 #[.agg [.int .i64 t.polders, hv, nv, fv].toArray, .int .i64 i] w0 (.int .i64 (ofE t i)) := by
  obtain ⟨hv', nv', fv', he0, hpol, hsh, hsn, hsf⟩ := id h
  obtain ⟨rfl, rfl, rfl⟩ : hv' = hv ∧ nv' = nv ∧ fv' = fv := by simpa [eq_comm] using he0
  obtain ⟨a1, cap1, rfl, hcap1, hmx1, hel1⟩ := id hsh
  obtain ⟨a2, cap2, rfl, hcap2, hmx2, hel2⟩ := id hsn
  obtain ⟨a3, cap3, rfl, hcap3, hmx3, hel3⟩ := id hsf
  refine enter Tryz.func70 rfl Tryz.ntmps70 rfl ?_
  have hS := St.start w0
  refine seq ?_
  refine region ?_
  refine sbox hS rfl rfl ?_; clear hS; intro b2 w hS
  refine sv (yAsg rfl) ?_
  refine nil ?_
  show Code.wp _ _ _ _ _
  refine seq ?_
  refine region ?_
  refine sv (yLdBA rfl Tryz.isAgg26 Tryz.sizeOf26 (hS.at _) rfl rfl) ?_
  refine scall Tryz.call77 (.cons rfl .nil) (c_rgood (h.ext hS.ext)) ?_
  rintro _ w ⟨rfl, hE⟩; replace hS := hS.step hE; clear hE
  refine sv (yAsg rfl) ?_
  refine nil ?_
  show Code.wp _ _ _ _ _
  refine seq ?_
  refine seq ?_
  refine region ?_
  refine sv (yMove rfl) ?_
  refine sv (yEql rfl rfl) ?_
  refine sv (yMove rfl) ?_
  refine sg rfl rfl rfl (fun g => (yMove rfl)) (fun v11 g11 => ?_)
  refine sg rfl rfl rfl (fun g => (fa26_2 rfl)) (fun v12 g12 => ?_)
  refine sg rfl rfl rfl (fun g => (yLdB (g12.1 g) Tryz.isAgg23 (hS.at _) rfl)) (fun v13 g13 => ?_)
  refine sg rfl rfl rfl (fun g => (yLen (g13.1 g) Tryz.underlying23)) (fun v14 g14 => ?_)
  refine sg rfl rfl rfl (fun g => (ySub (g14.1 g) rfl ⟨by omega, by omega⟩)) (fun v15 g15 => ?_)
  refine sgc hS rfl rfl rfl Tryz.call66 (fun g => (.cons (g11.1 g) (.cons rfl (.cons (g15.1 g) .nil)))) (fun g => c_rin) ?_; clear hS; intro v16 w hS g16
  refine sg rfl rfl rfl (fun g => (yNot (g16.1 g))) (fun v17 g17 => ?_)
  refine sv (yAnd rfl (fun hB => (g17.1 hB)) rfl) ?_
  refine nil ?_
  show Code.wp _ _ _ _ _
  refine cond rfl (fun c18 => ?_) (fun c18 => ?_)
  ·
    refine region ?_
    refine sv (yAsg rfl) ?_
    refine nil ?_
    show Code.wp _ _ _ _ _
    refine seq ?_
    refine region ?_
    refine sv (yMove rfl) ?_
    refine sv (yAsg rfl) ?_
    refine nil ?_
    show Code.wp _ _ _ _ _
    refine wp_ret ?_
    exact retV (res1 rfl (eqI (ofE_yes c18))) hS.ext
  ·
    refine skip ?_
    show Code.wp _ _ _ _ _
    refine seq ?_
    refine region ?_
    refine sv (yMove rfl) ?_
    refine sv (yAsg rfl) ?_
    refine nil ?_
    show Code.wp _ _ _ _ _
    refine wp_ret ?_
    exact retV (res1 rfl (eqI (ofE_no c18))) hS.ext
set_option maxHeartbeats 2000000 in
/-- barrage/barrageref11.arrival -/
theorem c_rarr {t : Task} {hv nv fv : Value} {i : Int} {w0 : World} (h : RTask w0 [.int .i64 t.polders, hv, nv, fv] t) (hok : TaskOk t) (hi : 0 ≤ i ∧ i < t.towns.length) : CV Tryz.prog 71 #[.agg [.int .i64 t.polders, hv, nv, fv].toArray, .int .i64 i] w0 (.tuple #[.agg (spanC (arr t i).1).toArray, .int .i64 (arr t i).2]) := by
  obtain ⟨hv', nv', fv', he0, hpol, hsh, hsn, hsf⟩ := id h
  obtain ⟨rfl, rfl, rfl⟩ : hv' = hv ∧ nv' = nv ∧ fv' = fv := by simpa [eq_comm] using he0
  obtain ⟨a1, cap1, rfl, hcap1, hmx1, hel1⟩ := id hsh
  obtain ⟨a2, cap2, rfl, hcap2, hmx2, hel2⟩ := id hsn
  obtain ⟨a3, cap3, rfl, hcap3, hmx3, hel3⟩ := id hsf
  obtain ⟨bt, ot, cst, hat, hlt, hcst, hRt, -⟩ := sl_at hsn (twn_i (t := t) hi)
  obtain ⟨dvt, rfl, -, -, -, -, hslt, -⟩ := hRt
  have hto := town_ok hok hi
  have htp := hto.pol
  have htr := hto.travel
  have htl := hto.lead
  refine enter Tryz.func71 rfl Tryz.ntmps71 rfl ?_
  have hS := St.start w0
  refine seq ?_
  refine region ?_
  refine sbox hS rfl rfl ?_; clear hS; intro b2 w hS
  refine salloc hS Tryz.zeroValue44 rfl ?_; clear hS; intro b4 w hS
  refine sv (yAsg rfl) ?_
  refine nil ?_
  show Code.wp _ _ _ _ _
  refine seq ?_
  refine region ?_
  refine salloc hS Tryz.zeroValue44 rfl ?_; clear hS; intro b6 w hS
  refine nil ?_
  show Code.wp _ _ _ _ _
  refine seq ?_
  refine region ?_
  refine sv (yAsg rfl) ?_
  refine nil ?_
  show Code.wp _ _ _ _ _
  refine seq ?_
  refine seq ?_
  refine region ?_
  refine sv (yAsg rfl) ?_
  refine nil ?_
  show Code.wp _ _ _ _ _
  refine block ?_
  refine loop (fun f w zz => ∃ (k : Nat), f 1 = .int .i64 i ∧ f 2 = .pointer (some ⟨b2, 0, none⟩) ∧ f 4 = .pointer (some ⟨b4, 0, none⟩) ∧ f 6 = .pointer (some ⟨b6, 0, none⟩) ∧ f 7 = .int .i64 (arrP t (twn t i) k).2 ∧ f 8 = .int .i64 (k : Int) ∧ StX [] w0 w [blk b6 (spanC (arrP t (twn t i) k).1) 44, blk b4 [.int .i64 0, .int .i64 0] 44, blk b2 [.int .i64 t.polders, .slice a1 t.chans.length cap1, .slice a2 t.towns.length cap2, .slice a3 t.floods.length cap3] 26] ∧ (k ≤ t.floods.length) ∧ zz = t.floods.length - k) _ ⟨_, rfl, 0, rfl, rfl, rfl, rfl, rfl, rfl, hS, (Nat.zero_le _), rfl⟩ ?_
  clear hS
  rintro f w _ ⟨k, h1, h2, h4, h6, h7, h8, hS, hk, rfl⟩
  refine seq ?_
  refine seq ?_
  refine region ?_
  refine sv (yMove h8) ?_
  refine sv (fa26_3 h2) ?_
  refine sv (yLdB rfl Tryz.isAgg24 (hS.at _) rfl) ?_
  refine sv (yLen rfl Tryz.underlying24) ?_
  refine sv (yLss rfl rfl) ?_
  refine nil ?_
  show Code.wp _ _ _ _ _
  refine cond rfl (fun c14 => ?_) (fun c14 => ?_)
  ·
    simp only [Bool.and_eq_true, Bool.or_eq_true, Bool.and_eq_false_iff, Bool.or_eq_false_iff, decide_eq_true_eq, decide_eq_false_iff_not, Bool.not_eq_true, Bool.not_eq_false, Bool.not_not, Bool.not_eq_eq_eq_not, Bool.not_true, Bool.not_false, Bool.false_eq_true, Bool.true_eq_false, ne_eq, Decidable.not_not, not_false_eq_true, not_true_eq_false] at c14
    obtain ⟨l, hl, -⟩ := drop_of (l := t.floods) (k := k) (by omega)
    obtain ⟨bl, ol, csl, hal, hll, hcsl, hRl, -⟩ := sl_at hsf hl
    obtain ⟨lv, rfl, hsl⟩ := hRl
    obtain ⟨al, cl2, rfl, -⟩ := id hsl
    obtain ⟨hpl, hfb⟩ := fld_at hok hi (List.mem_of_getElem? hl)
    obtain ⟨bp, op, csp, hap, hlp, hcsp, hRp, hpn⟩ := sl_at hsl hpl
    obtain ⟨rfl, -⟩ := hRp
    have hpb := arrP_bd hok hto k
    refine skip ?_
    show Code.wp _ _ _ _ _
    refine seq ?_
    refine block ?_
    refine seq ?_
    refine region_draw mixed (by kernel_rfl) hS ?_
    refine qv (fun w hS => (fa26_3 h2)) ?_
    refine qv (fun w hS => (yLdB rfl Tryz.isAgg24 (hS.at _) rfl)) ?_
    refine qv (fun w hS => (yMove h8)) ?_
    refine qv (fun w hS => (yIxa rfl hal rfl Tryz.runUnderlying24 Tryz.sizeOf34 (by omega) (by omega))) ?_
    refine qv (fun w hS => (yLd rfl Tryz.isAgg34 ((hcsl.ext hS.ext).one))) ?_
    refine qv (fun w hS => (fa26_2 h2)) ?_
    refine qv (fun w hS => (yLdB rfl Tryz.isAgg23 (hS.at _) rfl)) ?_
    refine qv (fun w hS => (yMove h1)) ?_
    refine qv (fun w hS => (yIxa rfl hat rfl Tryz.runUnderlying23 Tryz.sizeOf36 (by omega) (by omega))) ?_
    refine qv (fun w hS => (fa36_1 rfl)) ?_
    refine qv (fun w hS => (yLd rfl Tryz.isAgg3 ((hcst.ext hS.ext).at (j := 1) rfl))) ?_
    refine qv (fun w hS => (yIxa rfl hap rfl Tryz.runUnderlying34 Tryz.sizeOf3 (by omega) (by omega))) ?_
    refine qv (fun w hS => (yLd rfl Tryz.isAgg3 ((hcsp.ext hS.ext).one))) ?_
    refine qv (fun w hS => (yAsg rfl)) ?_
    clear hS; refine qnil (fun w hS => ?_)
    show Code.wp _ _ _ _ _
    refine seq ?_
    refine seq ?_
    refine region ?_
    refine sv (yMove rfl) ?_
    refine sv (yLss rfl rfl) ?_
    refine nil ?_
    show Code.wp _ _ _ _ _
    refine cond rfl (fun c31 => ?_) (fun c31 => ?_)
    ·
      simp only [Bool.and_eq_true, Bool.or_eq_true, Bool.and_eq_false_iff, Bool.or_eq_false_iff, decide_eq_true_eq, decide_eq_false_iff_not, Bool.not_eq_true, Bool.not_eq_false, Bool.not_not, Bool.not_eq_eq_eq_not, Bool.not_true, Bool.not_false, Bool.false_eq_true, Bool.true_eq_false, ne_eq, Decidable.not_not, not_false_eq_true, not_true_eq_false] at c31
      refine exit ?_
      show Code.wp _ _ _ _ _
      refine region ?_
      refine sv (yMove h8) ?_
      refine sv (yAdd rfl rfl ⟨by omega, by omega⟩) ?_
      refine sv (yAsg rfl) ?_
      refine nil ?_
      have e := (arrP_succ (x := twn t i) hl).trans (arrS_skip c31)
      exact ⟨_, _, rfl, ⟨k + 1, h1, h2, h4, h6, (h7.trans (congrArg (fun q : Bx.Span × Int => Value.int .i64 q.2) e).symm), rfl, (by rw [e]; exact hS), (by omega), rfl⟩, by omega⟩
    ·
      simp only [Bool.and_eq_true, Bool.or_eq_true, Bool.and_eq_false_iff, Bool.or_eq_false_iff, decide_eq_true_eq, decide_eq_false_iff_not, Bool.not_eq_true, Bool.not_eq_false, Bool.not_not, Bool.not_eq_eq_eq_not, Bool.not_true, Bool.not_false, Bool.false_eq_true, Bool.true_eq_false, ne_eq, Decidable.not_not, not_false_eq_true, not_true_eq_false] at c31
      refine skip ?_
      show Code.wp _ _ _ _ _
      refine seq ?_
      refine region ?_
      refine sv (yMove rfl) ?_
      refine sv (fa26_2 h2) ?_
      refine sv (yLdB rfl Tryz.isAgg23 (hS.at _) rfl) ?_
      refine sv (yMove h1) ?_
      refine sv (yIxa rfl hat rfl Tryz.runUnderlying23 Tryz.sizeOf36 (by omega) (by omega)) ?_
      refine sv (fa36_2 rfl) ?_
      refine sv (yLd rfl Tryz.isAgg3 ((hcst.ext hS.ext).at (j := 2) rfl)) ?_
      refine sv (yAdd rfl rfl ⟨by omega, by omega⟩) ?_
      refine sv (yAsg rfl) ?_
      refine nil ?_
      show Code.wp _ _ _ _ _
      refine seq ?_
      refine seq ?_
      refine region ?_
      refine sv (yMove h7) ?_
      refine sv (yEql rfl rfl) ?_
      refine nil ?_
      show Code.wp _ _ _ _ _
      refine cond rfl (fun c41 => ?_) (fun c41 => ?_)
      ·
        simp only [Bool.and_eq_true, Bool.or_eq_true, Bool.and_eq_false_iff, Bool.or_eq_false_iff, decide_eq_true_eq, decide_eq_false_iff_not, Bool.not_eq_true, Bool.not_eq_false, Bool.not_not, Bool.not_eq_eq_eq_not, Bool.not_true, Bool.not_false, Bool.false_eq_true, Bool.true_eq_false, ne_eq, Decidable.not_not, not_false_eq_true, not_true_eq_false] at c41
        refine region ?_
        refine sv (yMove rfl) ?_
        refine sv (yMove rfl) ?_
        refine sv (yBuild Tryz.zeroValue44 rfl pl44 (.cons rfl rfl (.cons rfl rfl .nil)) rfl) ?_
        refine sst hS h6 rfl Tryz.sizeOf44 rfl rfl rfl rfl ?_; clear hS; intro w hS
        refine nil ?_
        show Code.wp _ _ _ _ _
        refine seq ?_
        refine region ?_
        refine sv (fa44_0 h6) ?_
        refine sv (yLdB rfl Tryz.isAgg3 (hS.at _) rfl) ?_
        refine sv (yMove rfl) ?_
        refine sv (yMin rfl rfl) ?_
        refine sv (fa44_1 h6) ?_
        refine sv (yLdB rfl Tryz.isAgg3 (hS.at _) rfl) ?_
        refine sv (yMove rfl) ?_
        refine sv (yMax rfl rfl) ?_
        refine sv (yBuild Tryz.zeroValue44 rfl pl44 (.cons rfl rfl (.cons rfl rfl .nil)) rfl) ?_
        refine sst hS h6 rfl Tryz.sizeOf44 rfl rfl rfl rfl ?_; clear hS; intro w hS
        refine nil ?_
        show Code.wp _ _ _ _ _
        refine region ?_
        refine sv (yMove h7) ?_
        refine sv (yAdd rfl rfl ⟨by omega, by omega⟩) ?_
        refine sv (yAsg rfl) ?_
        refine nil ?_
        show Code.wp _ _ _ _ _
        refine region ?_
        refine sv (yMove h8) ?_
        refine sv (yAdd rfl rfl ⟨by omega, by omega⟩) ?_
        refine sv (yAsg rfl) ?_
        refine nil ?_
        have e := (arrP_succ (x := twn t i) hl).trans (arrS_zero c31 c41)
        exact ⟨_, _, rfl, ⟨k + 1, h1, h2, h4, h6, (rfl.trans (congrArg (fun q : Bx.Span × Int => Value.int .i64 q.2) e).symm), rfl, (by rw [e]; exact hS), (by omega), rfl⟩, by omega⟩
      ·
        simp only [Bool.and_eq_true, Bool.or_eq_true, Bool.and_eq_false_iff, Bool.or_eq_false_iff, decide_eq_true_eq, decide_eq_false_iff_not, Bool.not_eq_true, Bool.not_eq_false, Bool.not_not, Bool.not_eq_eq_eq_not, Bool.not_true, Bool.not_false, Bool.false_eq_true, Bool.true_eq_false, ne_eq, Decidable.not_not, not_false_eq_true, not_true_eq_false] at c41
        refine skip ?_
        show Code.wp _ _ _ _ _
        refine seq ?_
        refine region ?_
        refine sv (fa44_0 h6) ?_
        refine sv (yLdB rfl Tryz.isAgg3 (hS.at _) rfl) ?_
        refine sv (yMove rfl) ?_
        refine sv (yMin rfl rfl) ?_
        refine sv (fa44_1 h6) ?_
        refine sv (yLdB rfl Tryz.isAgg3 (hS.at _) rfl) ?_
        refine sv (yMove rfl) ?_
        refine sv (yMax rfl rfl) ?_
        refine sv (yBuild Tryz.zeroValue44 rfl pl44 (.cons rfl rfl (.cons rfl rfl .nil)) rfl) ?_
        refine sst hS h6 rfl Tryz.sizeOf44 rfl rfl rfl rfl ?_; clear hS; intro w hS
        refine nil ?_
        show Code.wp _ _ _ _ _
        refine region ?_
        refine sv (yMove h7) ?_
        refine sv (yAdd rfl rfl ⟨by omega, by omega⟩) ?_
        refine sv (yAsg rfl) ?_
        refine nil ?_
        show Code.wp _ _ _ _ _
        refine region ?_
        refine sv (yMove h8) ?_
        refine sv (yAdd rfl rfl ⟨by omega, by omega⟩) ?_
        refine sv (yAsg rfl) ?_
        refine nil ?_
        have e := (arrP_succ (x := twn t i) hl).trans (arrS_more c31 c41)
        exact ⟨_, _, rfl, ⟨k + 1, h1, h2, h4, h6, (rfl.trans (congrArg (fun q : Bx.Span × Int => Value.int .i64 q.2) e).symm), rfl, (by rw [e]; exact hS), (by omega), rfl⟩, by omega⟩
  ·
    simp only [Bool.and_eq_true, Bool.or_eq_true, Bool.and_eq_false_iff, Bool.or_eq_false_iff, decide_eq_true_eq, decide_eq_false_iff_not, Bool.not_eq_true, Bool.not_eq_false, Bool.not_not, Bool.not_eq_eq_eq_not, Bool.not_true, Bool.not_false, Bool.false_eq_true, Bool.true_eq_false, ne_eq, Decidable.not_not, not_false_eq_true, not_true_eq_false] at c14
    obtain rfl : k = t.floods.length := by omega
    rw [arrP_end] at hS h7
    refine exit ?_
    show Code.wp _ _ _ _ _
    refine seq ?_
    refine region ?_
    refine sv (yLdBA h6 Tryz.isAgg44 Tryz.sizeOf44 (hS.at _) rfl rfl) ?_
    refine sv (yMove h7) ?_
    refine sst hS h4 rfl Tryz.sizeOf44 rfl rfl rfl rfl ?_; clear hS; intro w hS
    refine sv (yAsg rfl) ?_
    refine nil ?_
    show Code.wp _ _ _ _ _
    refine wp_ret ?_
    exact retV (resV2 rfl (rc h4 Tryz.isAgg44 Tryz.sizeOf44 (hS.at _) rfl rfl) (rt rfl)) hS.ext
set_option maxHeartbeats 1000000 in
/-- barrage/barrageref11.stage -/
theorem c_rstage {t : Task} {hv nv fv : Value} {i now : Int} {w0 : World} (h : RTask w0 [.int .i64 t.polders, hv, nv, fv] t) (hok : TaskOk t) (hi : 0 ≤ i ∧ i < t.towns.length) : CV Tryz.prog 74 #[.agg [.int .i64 t.polders, hv, nv, fv].toArray, .int .i64 i, .int .i64 now] w0 (.int .i64 (stageF t i now)) := by
  obtain ⟨hv', nv', fv', he0, hpol, hsh, hsn, hsf⟩ := id h
  obtain ⟨rfl, rfl, rfl⟩ : hv' = hv ∧ nv' = nv ∧ fv' = fv := by simpa [eq_comm] using he0
  obtain ⟨a1, cap1, rfl, hcap1, hmx1, hel1⟩ := id hsh
  obtain ⟨a2, cap2, rfl, hcap2, hmx2, hel2⟩ := id hsn
  obtain ⟨a3, cap3, rfl, hcap3, hmx3, hel3⟩ := id hsf
  obtain ⟨bt, ot, cst, hat, hlt, hcst, hRt, -⟩ := sl_at hsn (twn_i (t := t) hi)
  obtain ⟨dvt, rfl, -, -, -, -, hslt, -⟩ := hRt
  have hto := town_ok hok hi
  have htp := hto.pol
  have htr := hto.travel
  have htl := hto.lead
  refine enter Tryz.func74 rfl Tryz.ntmps74 rfl ?_
  have hS := St.start w0
  refine seq ?_
  refine region ?_
  refine sbox hS rfl rfl ?_; clear hS; intro b3 w hS
  refine sv (yAsg rfl) ?_
  refine nil ?_
  show Code.wp _ _ _ _ _
  refine seq ?_
  refine region ?_
  refine sv (yLdBA rfl Tryz.isAgg26 Tryz.sizeOf26 (hS.at _) rfl rfl) ?_
  refine sv (yMove rfl) ?_
  refine scall Tryz.call71 (.cons rfl (.cons rfl .nil)) (c_rarr (h.ext hS.ext) hok hi) ?_
  rintro _ w ⟨rfl, hE⟩; replace hS := hS.step hE; clear hE
  refine sv (yMove rfl) ?_
  refine sv (yExt rfl rfl) ?_
  refine sv (yExt rfl rfl) ?_
  refine salloc hS Tryz.zeroValue44 rfl ?_; clear hS; intro b7 w hS
  refine sst hS rfl rfl Tryz.sizeOf44 rfl rfl rfl rfl ?_; clear hS; intro w hS
  refine sv (yAsg rfl) ?_
  refine nil ?_
  show Code.wp _ _ _ _ _
  refine seq ?_
  refine seq ?_
  refine region ?_
  refine sv (yMove rfl) ?_
  refine sv (yEql rfl rfl) ?_
  refine nil ?_
  show Code.wp _ _ _ _ _
  refine cond rfl (fun c16 => ?_) (fun c16 => ?_)
  ·
    simp only [Bool.and_eq_true, Bool.or_eq_true, Bool.and_eq_false_iff, Bool.or_eq_false_iff, decide_eq_true_eq, decide_eq_false_iff_not, Bool.not_eq_true, Bool.not_eq_false, Bool.not_not, Bool.not_eq_eq_eq_not, Bool.not_true, Bool.not_false, Bool.false_eq_true, Bool.true_eq_false, ne_eq, Decidable.not_not, not_false_eq_true, not_true_eq_false] at c16
    refine seq ?_
    refine region ?_
    refine sv (yAsg rfl) ?_
    refine nil ?_
    show Code.wp _ _ _ _ _
    refine wp_ret (thenR ?_)
    exact retV (res1 rfl (eqI (by unfold stageF; rw [if_pos c16]))) hS.ext
  ·
    simp only [Bool.and_eq_true, Bool.or_eq_true, Bool.and_eq_false_iff, Bool.or_eq_false_iff, decide_eq_true_eq, decide_eq_false_iff_not, Bool.not_eq_true, Bool.not_eq_false, Bool.not_not, Bool.not_eq_eq_eq_not, Bool.not_true, Bool.not_false, Bool.false_eq_true, Bool.true_eq_false, ne_eq, Decidable.not_not, not_false_eq_true, not_true_eq_false] at c16
    have hab := arr_bd hok hi
    refine skip ?_
    show Code.wp _ _ _ _ _
    refine seq ?_
    refine seq ?_
    refine region_draw mixed (by kernel_rfl) hS ?_
    refine qv (fun w hS => (yMove rfl)) ?_
    refine qv (fun w hS => (fa26_3 rfl)) ?_
    refine qv (fun w hS => (yLdB rfl Tryz.isAgg24 (hS.at _) rfl)) ?_
    refine qv (fun w hS => (yLen rfl Tryz.underlying24)) ?_
    refine qv (fun w hS => (yEql rfl rfl)) ?_
    refine qv (fun w hS => (yMove rfl)) ?_
    refine qg rfl rfl rfl (fun g w hS => (fa44_0 rfl)) (fun v23 g23 => ?_)
    refine qg rfl rfl rfl (fun g w hS => (yLdB (g23.1 g) Tryz.isAgg3 (hS.at _) rfl)) (fun v24 g24 => ?_)
    refine qg rfl rfl rfl (fun g w hS => (fa26_2 rfl)) (fun v25 g25 => ?_)
    refine qg rfl rfl rfl (fun g w hS => (yLdB (g25.1 g) Tryz.isAgg23 (hS.at _) rfl)) (fun v26 g26 => ?_)
    refine qg rfl rfl rfl (fun g w hS => (yMove rfl)) (fun v27 g27 => ?_)
    refine qg rfl rfl rfl (fun g w hS => (yIxa (g26.1 g) hat (g27.1 g) Tryz.runUnderlying23 Tryz.sizeOf36 (by omega) (by omega))) (fun v28 g28 => ?_)
    refine qg rfl rfl rfl (fun g w hS => (fa36_3 (g28.1 g))) (fun v29 g29 => ?_)
    refine qg rfl rfl rfl (fun g w hS => (yLd (g29.1 g) Tryz.isAgg3 ((hcst.ext hS.ext).at (j := 3) rfl))) (fun v30 g30 => ?_)
    refine qg rfl rfl rfl (fun g w hS => (ySub (g24.1 g) (g30.1 g) ⟨by omega, by omega⟩)) (fun v31 g31 => ?_)
    refine qg rfl rfl rfl (fun g w hS => (yMove rfl)) (fun v32 g32 => ?_)
    refine qg rfl rfl rfl (fun g w hS => (yLeq (g31.1 g) (g32.1 g))) (fun v33 g33 => ?_)
    refine qv (fun w hS => (yOr rfl rfl (fun hB => (g33.1 hB)))) ?_
    clear hS; refine qnil (fun w hS => ?_)
    show Code.wp _ _ _ _ _
    refine cond rfl (fun c34 => ?_) (fun c34 => ?_)
    ·
      refine seq ?_
      refine region ?_
      refine sv (yAsg rfl) ?_
      refine nil ?_
      show Code.wp _ _ _ _ _
      refine wp_ret (thenR ?_)
      exact retV (res1 rfl (eqI (stage_2 c16 c34))) hS.ext
    ·
      refine skip ?_
      show Code.wp _ _ _ _ _
      refine seq ?_
      refine region ?_
      refine sv (yAsg rfl) ?_
      refine nil ?_
      show Code.wp _ _ _ _ _
      refine wp_ret ?_
      exact retV (res1 rfl (eqI (stage_1 c16 c34))) hS.ext
end Go.Proofs.YtmoilbakmlekbaaGreatDoor

/- part A26 -/
namespace Bx
open Go Go.RowKit
/-- What is better: which history is left out, how much more room, how much less delay, how much earlier. -/
structure Bett where
  hist : Int
  room : Int
  delay : Int
  earl : Int
structure ChkOk (t : Task) : Prop where
  pol : outB t.polders 0 6 = false
  nch : ¬ (4 : Int) < t.chans.length
  chs : ∀ c ∈ t.chans, isName c.name = true ∧ chanE c = 0
  chn : (t.chans.map (·.name)).Nodup
  ntw : ¬ (8 : Int) < t.towns.length
  tws : ∀ x ∈ t.towns, isName x.name = true ∧ townE t.polders t.chans.length x = 0
  twn : (t.towns.map (·.name)).Nodup
  nfl : outB t.floods.length 1 8 = false
  fls : ∀ l ∈ t.floods, floodE t.polders l = 0
end Bx

/- part A27 -/
namespace Bx
open Go Go.RowKit
theorem wrongL_snoc (t : Task) (x : Msg) : ∀ (l : List Msg) (i b : Int), wrongL t (l ++ [x]) i b = 0 ↔ wrongL t l i b = 0 ∧ badM t x (i + l.length) (((l.getLast?).map (·.sent)).getD b) = false
  | [], i, b => by
    have e : i + ((List.length ([] : List Msg) : Nat) : Int) = i := by simp
    rw [List.nil_append, e]
    cases h : badM t x i b <;> simp [wrongL, h]
  | y :: l, i, b => by
    rw [List.cons_append, wrongL, wrongL]
    by_cases h : badM t y i b = true
    · rw [if_pos h, if_pos h]; simp
    · rw [if_neg h, if_neg h, wrongL_snoc t x l]
      have e : (((y :: l).getLast?).map (·.sent)).getD b = ((l.getLast?).map (·.sent)).getD y.sent := by
        rw [List.getLast?_cons]
        cases l.getLast? <;> rfl
      rw [e, List.length_cons, show i + 1 + (l.length : Int) = i + ((l.length + 1 : Nat) : Int) by push_cast; omega]
/-- A log that is right, with nothing sent behind a tick. -/
structure LogOk (t : Task) (all : List Msg) (T : Int) : Prop where
  ok : wrongL t all 0 0 = 0
  sent : ∀ x ∈ all, x.sent ≤ T
theorem LogOk.msgs {t : Task} {all : List Msg} {T : Int} (h : LogOk t all T) : ∀ x ∈ all, MsgOk t x := (wrongL_ok all 0 0 (Int.le_refl _) h.ok).1
theorem by_mem {t : Task} {all : List Msg} {now i c : Int} (h : byF t all now i = some c) : c ∈ (twn t i).chans := by
  unfold byF at h
  exact canL_mem ((sortV_perm _ _).mem_iff.1 (List.mem_of_head? h))
theorem step_log {t : Task} (ht : TaskOk t) {all : List Msg} {T i : Int} (hi : 0 ≤ i ∧ i < t.towns.length) (hT : 0 ≤ T ∧ T ≤ 200000) (h : LogOk t all T) : LogOk t (nextStep t T all i) T := by
  unfold nextStep
  cases hb : byF t all T i with
  | none => exact h
  | some c =>
    have hc := chan_mem ht (by_mem hb)
    refine ⟨(wrongL_snoc t _ all 0 0).2 ⟨h.ok, ?_⟩, fun x hx => ?_⟩
    · have hs := stageF_bd t i T
      have hl : 0 ≤ ((all.getLast?).map (·.sent)).getD 0 ∧ ((all.getLast?).map (·.sent)).getD 0 ≤ T := by
        cases hq : all.getLast? with
        | none => exact ⟨Int.le_refl _, hT.1⟩
        | some z =>
          have hz := List.mem_of_getLast? hq
          exact ⟨(h.msgs z hz).sent.1, h.sent z hz⟩
      generalize ((all.getLast?).map (·.sent)).getD 0 = q at hl ⊢
      simp only [badM, msgF, Bool.or_eq_false_iff, outB_false, decide_eq_false_iff_not, Decidable.not_not]
      exact ⟨⟨⟨⟨decide_eq_false (fun h => h (by omega)), by omega⟩, by omega⟩, by omega⟩, by omega⟩
    · rcases List.mem_append.1 hx with hx | hx
      · exact h.sent x hx
      · rw [List.mem_singleton.1 hx]; exact Int.le_refl _
theorem sum_mono {g g' : Int → Int} : ∀ {l : List Int}, (∀ j ∈ l, g' j ≤ g j) → (l.map g').sum ≤ (l.map g).sum
  | [], _ => Int.le_refl _
  | x :: l, h => by
    have := sum_mono fun j hj => h j (List.mem_cons_of_mem x hj)
    have := h x (List.mem_cons_self ..)
    simp only [List.map_cons, List.sum_cons]; omega
theorem sum_dec {g g' : Int → Int} {i : Int} : ∀ {l : List Int}, l.Nodup → i ∈ l → g' i + 1 ≤ g i → (∀ j, j ≠ i → g' j ≤ g j) → (l.map g').sum + 1 ≤ (l.map g).sum
  | x :: l, hn, hi, h1, h2 => by
    rw [List.nodup_cons] at hn
    simp only [List.map_cons, List.sum_cons]
    by_cases e : x = i
    · subst e
      have := sum_mono (g := g) (g' := g') (l := l) fun j hj => h2 j (fun e => hn.1 (e ▸ hj))
      omega
    · have := sum_dec hn.2 ((List.mem_cons.1 hi).resolve_left (fun k => e k.symm)) h1 h2
      have := h2 x e
      omega
def pot (t : Task) (all : List Msg) (T i : Int) : Int := (if lastF all i = stageF t i T then 0 else 1) + (if stageF t i T = 1 then 1 else 0)
def potS (t : Task) (all : List Msg) (T : Int) : Int := ((idxL t).map (pot t all T)).sum
theorem pot_bd (t : Task) (all : List Msg) (T i : Int) : 0 ≤ pot t all T i ∧ pot t all T i ≤ 2 := by unfold pot; split <;> split <;> omega
theorem potS_bd (t : Task) (all : List Msg) (T : Int) : 0 ≤ potS t all T ∧ potS t all T ≤ 2 * t.towns.length := by
  have h1 := sum_mono (l := idxL t) (g' := fun _ => 0) (g := pot t all T) fun j _ => (pot_bd t all T j).1
  have h2 := sum_mono (l := idxL t) (g := fun _ => 2) (g' := pot t all T) fun j _ => (pot_bd t all T j).2
  rw [sum_const] at h1 h2
  rw [idxL_len] at h1 h2
  unfold potS
  omega
theorem idxL_nod (t : Task) : (idxL t).Nodup := nodup_of_asc (idxL_asc t)
theorem step_pot {t : Task} {all : List Msg} {T i : Int} (hi : i ∈ idxL t) (hl : lastF all i ≠ stageF t i T) : ((nextStep t T all i).length : Int) + potS t (nextStep t T all i) T ≤ all.length + potS t all T ∧ ∀ j, j ≠ i → lastF (nextStep t T all i) j = lastF all j := by
  unfold nextStep
  cases hb : byF t all T i with
  | none => exact ⟨Int.le_refl _, fun _ _ => rfl⟩
  | some c =>
    have hj : ∀ j, j ≠ i → lastF (all ++ [msgF t all T i c]) j = lastF all j := fun j hj => by rw [lastF_snoc]; exact if_neg fun e => hj e.symm
    refine ⟨?_, hj⟩
    have := sum_dec (g := pot t all T) (g' := pot t (all ++ [msgF t all T i c]) T) (idxL_nod t) hi (by
      unfold pot
      rw [if_neg hl, lastF_snoc, if_pos (show (msgF t all T i c).town = i from rfl), if_pos (show (msgF t all T i c).stage = stageF t i T from rfl)]
      omega) (fun j hji => by unfold pot; rw [hj j hji]; exact Int.le_refl _)
    simp only [List.length_append, List.length_singleton]
    unfold potS
    push_cast
    omega
theorem fold_log {t : Task} (ht : TaskOk t) {T : Int} (hT : 0 ≤ T ∧ T ≤ 200000) : ∀ (l : List Int) (all : List Msg), l.Nodup → (∀ i ∈ l, 0 ≤ i ∧ i < t.towns.length) → (∀ i ∈ l, lastF all i ≠ stageF t i T) → LogOk t all T →
    LogOk t (l.foldl (nextStep t T) all) T ∧ ((l.foldl (nextStep t T) all).length : Int) + potS t (l.foldl (nextStep t T) all) T ≤ all.length + potS t all T
  | [], _, _, _, _, h => ⟨h, Int.le_refl _⟩
  | i :: l, all, hn, hb, hl, h => by
    rw [List.nodup_cons] at hn
    have hi := hb i (List.mem_cons_self ..)
    obtain ⟨s1, s2⟩ := step_pot (T := T) (mem_idxL.2 hi) (hl i (List.mem_cons_self ..))
    obtain ⟨r1, r2⟩ := fold_log ht hT l (nextStep t T all i) hn.2 (fun j hj => hb j (List.mem_cons_of_mem _ hj)) (fun j hj => by rw [s2 j (fun e => hn.1 (e ▸ hj))]; exact hl j (List.mem_cons_of_mem _ hj)) (step_log ht hi hT h)
    rw [List.foldl_cons]
    exact ⟨r1, by omega⟩
theorem mem_ordL {t : Task} {log : List Msg} {now i : Int} : i ∈ ordL t log now ↔ i ∈ idxL t ∧ lastF log i ≠ stageF t i now := by
  unfold ordL upL downL
  rw [List.mem_append, mem_sortV, List.mem_filter, List.mem_filter, decide_eq_true_eq, decide_eq_true_eq]
  constructor
  · rintro (⟨h, k⟩ | ⟨h, k⟩)
    · exact ⟨h, by omega⟩
    · exact ⟨h, by omega⟩
  · rintro ⟨h, k⟩
    by_cases h2 : lastF log i < stageF t i now
    · exact .inl ⟨h, h2⟩
    · exact .inr ⟨h, by omega⟩
theorem ordL_nod (t : Task) (log : List Msg) (now : Int) : (ordL t log now).Nodup := by
  unfold ordL
  refine List.nodup_append.2 ⟨(sortV_perm _ _).nodup_iff.2 ((idxL_nod t).filter _), (idxL_nod t).filter _, fun a ha b hb e => ?_⟩
  subst e
  rw [mem_sortV] at ha
  have h1 := (List.mem_filter.1 ha).2
  have h2 := (List.mem_filter.1 hb).2
  simp only [decide_eq_true_eq] at h1 h2
  omega
def restA (t : Task) (log : List Msg) (now : Int) : Nat → List Msg
  | 0 => log
  | i + 1 => restA t log now i ++ nextF t (restA t log now i) (now + i)
structure RestI (t : Task) (log : List Msg) (now : Int) (i : Nat) : Prop where
  ok : wrongL t (restA t log now i) 0 0 = 0
  sent : ∀ x ∈ restA t log now i, x.sent < now + i
  few : ((restA t log now i).length : Int) + potS t (restA t log now i) (now + i) ≤ 116
theorem RestI.wrong {t : Task} {log : List Msg} {now : Int} {i : Nat} (h : RestI t log now i) : wrongF t (restA t log now i) = 0 := by
  have := h.few
  have := (potS_bd t (restA t log now i) (now + i)).1
  unfold wrongF
  rw [if_neg (by omega)]
  exact h.ok
theorem late_no {log : List Msg} {now : Int} (h : ∀ x ∈ log, x.sent ≤ now) (h0 : 0 ≤ now) : lateB log now = false := by
  unfold lateB
  rw [Bool.and_eq_false_iff]
  cases hq : log.getLast? with
  | none => exact .inr (by simpa using h0)
  | some z => exact .inr (by simpa using h z (List.mem_of_getLast? hq))
theorem RestI.next {t : Task} (hck : (checkA t).2.2 = 0) {log : List Msg} {now : Int} (hn : 0 ≤ now ∧ now ≤ 199800) {i : Nat} (hi : i < 40) (h : RestI t log now i) : nextR t (restA t log now i) (now + i) = (nextF t (restA t log now i) (now + i), 0) := by
  have e : nextE t (restA t log now i) (now + i) = 0 := by
    unfold nextE
    rw [if_neg (fun k => k hck), if_neg (fun k => k h.wrong), if_neg]
    rw [outB_false.2 (show 0 ≤ now + (i : Int) ∧ now + (i : Int) ≤ 200000 by omega), late_no (fun x hx => by have := h.sent x hx; omega) (by omega)]
    decide
  unfold nextR
  rw [if_neg (fun k => k e)]
theorem nextE_ok {t : Task} {log : List Msg} {now : Int} (h : nextE t log now = 0) : (checkA t).2.2 = 0 ∧ wrongF t log = 0 ∧ (0 ≤ now ∧ now ≤ 200000) ∧ lateB log now = false := by
  unfold nextE at h
  split at h
  next h1 => exact absurd h h1
  next h1 =>
    split at h
    next h2 => exact absurd h h2
    next h2 =>
      split at h
      next => cases h
      next h3 =>
        simp only [Bool.or_eq_true, not_or, Bool.not_eq_true, outB_false] at h3
        exact ⟨Decidable.not_not.1 h1, Decidable.not_not.1 h2, h3.1, h3.2⟩
end Bx

/- part A28 -/
namespace Bx
open Go Go.RowKit
def pasR (lt : Int → Int → Bool) (l : List Int) : List Int := l.foldl (fun p x => passV lt x p) []
theorem pasR_step (lt : Int → Int → Bool) {l : List Int} {i : Nat} {x : Int} (h : l[i]? = some x) : pasR lt (l.take (i + 1)) = passV lt x (pasR lt (l.take i)) := by unfold pasR; rw [take_snoc h, List.foldl_append]; rfl
theorem pas_start (lt : Int → Int → Bool) (l : List Int) : (pasR lt (l.take 1)).reverse ++ l.drop 1 = l := by
  cases l with
  | nil => rfl
  | cons x l => rfl
theorem pas_end {lt : Int → Int → Bool} {l : List Int} {i : Nat} (h : l.length ≤ i) : (pasR lt (l.take i)).reverse ++ l.drop i = sortP lt l := by
  rw [List.take_of_length_le h, List.drop_of_length_le h, List.append_nil]; rfl
theorem passV_perm (lt : Int → Int → Bool) : ∀ (p : List Int) (b : Int), (passV lt b p).Perm (b :: p)
  | [], _ => List.Perm.refl _
  | a :: p, b => by
    rw [passV]
    split
    · exact ((passV_perm lt p b).cons a).trans (List.Perm.swap b a p)
    · exact (passV_perm lt p a).cons b
theorem pasR_perm (lt : Int → Int → Bool) (l : List Int) : (pasR lt l).Perm l := by
  induction l using snocR with
  | h0 => exact List.Perm.refl _
  | h1 l x ih =>
    have e : pasR lt (l ++ [x]) = passV lt x (pasR lt l) := by unfold pasR; rw [List.foldl_append]; rfl
    rw [e]
    exact (passV_perm lt _ x).trans ((ih.cons x).trans (List.perm_append_comm (l₁ := [x]) (l₂ := l)))
theorem snoc_ex {l : List Int} (h : 0 < l.length) : ∃ k a, l = k ++ [a] := by
  obtain ⟨y, hy⟩ := last_ex l
  obtain ⟨k, e⟩ := last_split h (hy h)
  exact ⟨k, y, e⟩
theorem pass_yes {lt : Int → Int → Bool} {b a : Int} {k : List Int} (h : lt b a = true) : passV lt b ((k ++ [a]).reverse) = a :: passV lt b k.reverse := by
  rw [List.reverse_append]; exact if_pos h
theorem pass_not {lt : Int → Int → Bool} {b a : Int} {k : List Int} (h : lt b a = false) : passV lt b ((k ++ [a]).reverse) = b :: passV lt a k.reverse := by
  rw [List.reverse_append]; exact if_neg (by rw [h]; decide)
theorem swap_set2 (ks js r : List Int) (x y : Int) : ((ks ++ [y] ++ [x] ++ js ++ r).set ks.length x).set (ks.length + 1) y = ks ++ [x] ++ (y :: js) ++ r := by
  rw [List.set_comm _ _ (by omega)]; exact swap_set ks js r x y
theorem in_a (k js r : List Int) (a b : Int) : (k ++ [a] ++ [b] ++ js ++ r)[k.length]? = some a := by
  rw [List.append_assoc, List.append_assoc, List.append_assoc, List.getElem?_append_right (Nat.le_refl _)]; simp
theorem in_b (k js r : List Int) (a b : Int) : (k ++ [a] ++ [b] ++ js ++ r)[k.length + 1]? = some b := by
  have := inn_mid (k ++ [a]) js r b
  rwa [List.length_append, List.length_singleton] at this
theorem byStep_t {t : Task} {all : List Msg} {now q c : Int} (h : (decide (usedF all now c < (chn t c).room) && (decide (q < 0) || decide ((chn t c).delay < (chn t q).delay))) = true) : byStep t all now q c = c := by
  simp only [Bool.and_eq_true, Bool.or_eq_true, decide_eq_true_eq] at h
  exact if_pos h
theorem byStep_f {t : Task} {all : List Msg} {now q c : Int} (h : (decide (usedF all now c < (chn t c).room) && (decide (q < 0) || decide ((chn t c).delay < (chn t q).delay))) = false) : byStep t all now q c = q := by
  refine if_neg fun k => ?_
  have : (decide (usedF all now c < (chn t c).room) && (decide (q < 0) || decide ((chn t c).delay < (chn t q).delay))) = true := by
    simp only [Bool.and_eq_true, Bool.or_eq_true, decide_eq_true_eq]; exact k
  rw [h] at this; cases this
theorem by_bd {t : Task} (ht : TaskOk t) {all : List Msg} {now i : Int} (k : Nat) : byR t all now ((twn t i).chans.take k) = -1 ∨ 0 ≤ byR t all now ((twn t i).chans.take k) ∧ byR t all now ((twn t i).chans.take k) < t.chans.length := by
  rcases by_same (t := t) (all := all) (now := now) ((twn t i).chans.take k) (fun c hc => (chan_mem ht (List.mem_of_mem_take hc)).1) with ⟨-, h⟩ | ⟨c, -, h, hc⟩
  · exact .inl h
  · rw [h]; exact .inr (chan_mem ht (List.mem_of_mem_take hc))
theorem chan_if {w : World} {a : Option Addr} {cap : Nat} {t : Task} (h : Sl w 3 RChan (.slice a t.chans.length cap) t.chans) {q : Int} (hq : q < t.chans.length) : ∃ b o, 0 ≤ q → a = some ⟨b, o, none⟩ ∧ Cells w b (o + q.toNat * 3) (chanC (chn t q)) := by
  by_cases h0 : 0 ≤ q
  · obtain ⟨b, o, cs, ha, -, hc, hR, -⟩ := sl_at h (chn_i (t := t) ⟨h0, hq⟩)
    obtain ⟨rfl, -⟩ := hR
    exact ⟨b, o, fun _ => ⟨ha, hc⟩⟩
  · exact ⟨0, 0, fun k => absurd k h0⟩
theorem msg_if {w : World} {a : Option Addr} {cap : Nat} {log : List Msg} (h : Sl w 5 RMsg (.slice a log.length cap) log) (k : Nat) (hk : k ≤ log.length) : ∃ z b o, 0 < (k : Int) → a = some ⟨b, o, none⟩ ∧ Cells w b (o + ((k : Int) - 1).toNat * 5) (msgC z) ∧ z.sent = prv log k := by
  by_cases h0 : 0 < (k : Int)
  · obtain ⟨m, rfl⟩ : ∃ m, k = m + 1 := ⟨k - 1, by omega⟩
    obtain ⟨z, hz, -⟩ := drop_of (l := log) (k := m) (by omega)
    obtain ⟨b, o, cs, ha, -, hc, hR, -⟩ := sl_at h hz
    obtain ⟨rfl, -⟩ := hR
    rw [show (((m + 1 : Nat) : Int) - 1).toNat = m by omega]
    exact ⟨z, b, o, fun _ => ⟨ha, hc, (prv_succ hz).symm⟩⟩
  · exact ⟨⟨0, 0, 0, 0, 0⟩, 0, 0, fun k => absurd k h0⟩
theorem knJ_y {t : Task} {log : List Msg} {i tk e : Int} (he : e = if ofE t i = 0 then wrongF t log else ofE t i) (h : (decide (e = 0) && !inB tk 0 200000) = true) : knowsE t log i tk = 7 := by
  rw [Bool.and_eq_true, decide_eq_true_eq, inB_not] at h
  unfold knowsE
  split at he
  next h0 => rw [if_neg (fun k => k h0), if_neg (fun k => k (he.symm.trans h.1)), if_pos h.2]
  next h0 => exact absurd (he.symm.trans h.1) h0
theorem knJ_n {t : Task} {log : List Msg} {i tk e : Int} (he : e = if ofE t i = 0 then wrongF t log else ofE t i) (h : (decide (e = 0) && !inB tk 0 200000) = false) : knowsE t log i tk = e := by
  rw [Bool.and_eq_false_iff, decide_eq_false_iff_not, inB_not] at h
  unfold knowsE
  split at he
  next h0 =>
    rw [if_neg (fun k => k h0), ← he]
    split
    next => rfl
    next h1 => rw [if_neg (by rw [h.resolve_left (fun k => k (Decidable.not_not.1 h1))]; decide)]; exact (Decidable.not_not.1 h1).symm
  next h0 => rw [if_pos h0, he]
theorem nxJ_y {t : Task} {log : List Msg} {now e : Int} {p : Bool} (hp : lateB log now = p) (he : e = if (checkA t).2.2 = 0 then wrongF t log else (checkA t).2.2) (h : (decide (e = 0) && ((!inB now 0 200000) || p)) = true) : nextE t log now = 7 := by
  rw [Bool.and_eq_true, decide_eq_true_eq, inB_not, ← hp] at h
  unfold nextE
  split at he
  next h0 => rw [if_neg (fun k => k h0), if_neg (fun k => k (he.symm.trans h.1)), if_pos h.2]
  next h0 => exact absurd (he.symm.trans h.1) h0
theorem nxJ_n {t : Task} {log : List Msg} {now e : Int} {p : Bool} (hp : lateB log now = p) (he : e = if (checkA t).2.2 = 0 then wrongF t log else (checkA t).2.2) (h : (decide (e = 0) && ((!inB now 0 200000) || p)) = false) : nextE t log now = e := by
  rw [Bool.and_eq_false_iff, decide_eq_false_iff_not, inB_not, ← hp] at h
  unfold nextE
  split at he
  next h0 =>
    rw [if_neg (fun k => k h0), ← he]
    split
    next => rfl
    next h1 => rw [if_neg (by rw [h.resolve_left (fun k => k (Decidable.not_not.1 h1))]; decide)]; exact (Decidable.not_not.1 h1).symm
  next h0 => rw [if_pos h0, he]
theorem log_start {t : Task} {log : List Msg} {now : Int} (h : nextE t log now = 0) : LogOk t log now := by
  obtain ⟨-, h2, -, h4⟩ := nextE_ok h
  obtain ⟨-, -, -, hs⟩ := wrongF_ok h2
  have hw : wrongL t log 0 0 = 0 := by
    unfold wrongF at h2
    split at h2
    next => cases h2
    next => exact h2
  refine ⟨hw, fun x hx => ?_⟩
  obtain ⟨k, hk, rfl⟩ := List.getElem_of_mem hx
  have hne : log ≠ [] := by rintro rfl; cases hx
  have hz := List.getLast?_eq_some_getLast hne
  unfold lateB at h4
  rw [hz, decide_eq_true (show 0 < log.length by omega), Bool.true_and] at h4
  have h5 : (log.getLast hne).sent ≤ now := by simpa using h4
  rw [List.getLast_eq_getElem] at h5
  rw [List.pairwise_map] at hs
  rcases Nat.lt_or_ge k (log.length - 1) with hk2 | hk2
  · have := List.pairwise_iff_getElem.1 hs k (log.length - 1) hk (by omega) hk2
    omega
  · obtain rfl : k = log.length - 1 := by omega
    exact h5
theorem LogOk.i64 {t : Task} (ht : TaskOk t) {all : List Msg} {T : Int} (h : LogOk t all T) (hl : all.length ≤ 100000) : ∀ m ∈ all, MsgI m := fun m hm => by
  have h1 := h.msgs m hm
  obtain ⟨k, hk, rfl⟩ := List.getElem_of_mem hm
  have h2 := (wrongL_ok all 0 0 (Int.le_refl _) h.ok).2.1 k _ (List.getElem?_eq_getElem hk)
  have h3 := h1.town
  have h4 := h1.stage
  have h5 := h1.chan
  have h6 := h1.sent
  have := ht.ntw
  have := ht.nch
  refine ⟨⟨by omega, by omega⟩, ⟨by omega, by omega⟩, ⟨by omega, by omega⟩, ⟨by omega, by omega⟩, ⟨by omega, by omega⟩⟩
theorem all_log {t : Task} {log : List Msg} {now : Int} (h : nextE t log now = 0) : LogOk t (allF t log now) now ∧ (allF t log now).length ≤ 216 := by
  obtain ⟨h1, h2, h3, -⟩ := nextE_ok h
  have hok := task_ok h1
  obtain ⟨r1, r2⟩ := fold_log hok h3 (ordL t log now) log (ordL_nod ..) (fun j hj => ordL_mem hj) (fun j hj => (mem_ordL.1 hj).2) (log_start h)
  have := (wrongF_ok h2).1
  have := potS_bd t log now
  have := potS_bd t (allF t log now) now
  have := hok.ntw
  have e : (ordL t log now).foldl (nextStep t now) log = allF t log now := rfl
  rw [e] at r1 r2
  exact ⟨r1, by omega⟩
theorem nextR_i64 (t : Task) (log : List Msg) (now : Int) : ∀ m ∈ (nextR t log now).1, MsgI m := by
  unfold nextR
  split
  · intro m hm; cases hm
  next h =>
    have h0 := Decidable.not_not.1 h
    obtain ⟨h1, h2⟩ := all_log h0
    exact fun m hm => h1.i64 (task_ok (nextE_ok h0).1) (by omega) m (List.mem_of_mem_drop hm)
theorem msgs_one (l : List Msg) : (l.flatMap msgC).all (·.oneCell') = true := by
  induction l with
  | nil => rfl
  | cons x l ih => rw [List.flatMap_cons, List.all_append, ih]; rfl
theorem upL_asc (t : Task) (log : List Msg) (now : Int) : (upL t log now).Pairwise (· < ·) := (idxL_asc t).sublist List.filter_sublist
def RTwoI (_ : World) (cs : List Value) (p : Int × Int) : Prop := cs = [.int .i64 p.1, .int .i64 p.2] ∧ I64 p.1 ∧ I64 p.2
end Bx

/- part Aw32 -/
namespace Go.Proofs.YtmoilbakmlekbaaGreatDoor
open Go Bx
/-- barrage/barrageref11.sent -/
theorem c_rsent {log : List Msg} {lv : Value} {i : Int} {w0 : World} (hlg : Sl w0 5 RMsg lv log) : CV Tryz.prog 89 #[lv, .int .i64 i] w0 (.int .i64 (lastF log i)) := by
  obtain ⟨al, cl, rfl, hlcap, hlmx, hlel⟩ := id hlg
  refine enter Tryz.func89 rfl Tryz.ntmps89 rfl ?_
  have hS := St.start w0
  refine seq ?_
  refine region ?_
  refine sv (yAsg rfl) ?_
  refine nil ?_
  show Code.wp _ _ _ _ _
  refine seq ?_
  refine region ?_
  refine sv (yAsg rfl) ?_
  refine nil ?_
  show Code.wp _ _ _ _ _
  refine seq ?_
  refine seq ?_
  refine region ?_
  refine sv (yAsg rfl) ?_
  refine nil ?_
  show Code.wp _ _ _ _ _
  refine block ?_
  refine loop (fun f w zz => ∃ (k : Nat), f 0 = .slice al log.length cl ∧ f 1 = .int .i64 i ∧ f 5 = .int .i64 (lastF (log.take k) i) ∧ f 6 = .int .i64 (k : Int) ∧ StX [] w0 w [] ∧ (k ≤ log.length) ∧ zz = log.length - k) _ ⟨_, rfl, 0, rfl, rfl, rfl, rfl, hS, (Nat.zero_le _), rfl⟩ ?_
  clear hS
  rintro f w _ ⟨k, h0, h1, h5, h6, hS, hk, rfl⟩
  refine seq ?_
  refine seq ?_
  refine region ?_
  refine sv (yMove h6) ?_
  refine sv (yMove h0) ?_
  refine sv (yLen rfl Tryz.underlying62) ?_
  refine sv (yLss rfl rfl) ?_
  refine nil ?_
  show Code.wp _ _ _ _ _
  refine cond rfl (fun c10 => ?_) (fun c10 => ?_)
  ·
    simp only [Bool.and_eq_true, Bool.or_eq_true, Bool.and_eq_false_iff, Bool.or_eq_false_iff, decide_eq_true_eq, decide_eq_false_iff_not, Bool.not_eq_true, Bool.not_eq_false, Bool.not_not, Bool.not_eq_eq_eq_not, Bool.not_true, Bool.not_false, Bool.false_eq_true, Bool.true_eq_false, ne_eq, Decidable.not_not, not_false_eq_true, not_true_eq_false] at c10
    obtain ⟨x, hx, hd⟩ := drop_of (l := log) (k := k) (by omega)
    obtain ⟨bx, ox, csx, hax, hlx, hcsx, hRx, -⟩ := sl_at hlg hx
    obtain ⟨rfl, -⟩ := hRx
    refine skip ?_
    show Code.wp _ _ _ _ _
    refine seq ?_
    refine block ?_
    refine seq ?_
    refine region ?_
    refine sv (yMove h0) ?_
    refine sv (yMove h6) ?_
    refine sv (yIxa rfl hax rfl Tryz.runUnderlying62 Tryz.sizeOf70 (by omega) (by omega)) ?_
    refine sv (fa70_1 rfl) ?_
    refine sv (yLd rfl Tryz.isAgg3 ((hcsx.ext hS.ext).at (j := 1) rfl)) ?_
    refine sv (yMove h1) ?_
    refine sv (yEql rfl rfl) ?_
    refine nil ?_
    show Code.wp _ _ _ _ _
    refine cond rfl (fun c19 => ?_) (fun c19 => ?_)
    ·
      simp only [Bool.and_eq_true, Bool.or_eq_true, Bool.and_eq_false_iff, Bool.or_eq_false_iff, decide_eq_true_eq, decide_eq_false_iff_not, Bool.not_eq_true, Bool.not_eq_false, Bool.not_not, Bool.not_eq_eq_eq_not, Bool.not_true, Bool.not_false, Bool.false_eq_true, Bool.true_eq_false, ne_eq, Decidable.not_not, not_false_eq_true, not_true_eq_false] at c19
      refine region ?_
      refine sv (yMove h0) ?_
      refine sv (yMove h6) ?_
      refine sv (yIxa rfl hax rfl Tryz.runUnderlying62 Tryz.sizeOf70 (by omega) (by omega)) ?_
      refine sv (fa70_2 rfl) ?_
      refine sv (yLd rfl Tryz.isAgg3 ((hcsx.ext hS.ext).at (j := 2) rfl)) ?_
      refine sv (yAsg rfl) ?_
      refine nil ?_
      show Code.wp _ _ _ _ _
      refine region ?_
      refine sv (yMove h6) ?_
      refine sv (yAdd rfl rfl ⟨by omega, by omega⟩) ?_
      refine sv (yAsg rfl) ?_
      refine nil ?_
      exact ⟨_, _, rfl, ⟨k + 1, h0, h1, (rfl.trans (congrArg (Value.int .i64) (by rw [take_snoc hx, lastF_snoc, if_pos c19]))), rfl, hS, (by omega), rfl⟩, by omega⟩
    ·
      simp only [Bool.and_eq_true, Bool.or_eq_true, Bool.and_eq_false_iff, Bool.or_eq_false_iff, decide_eq_true_eq, decide_eq_false_iff_not, Bool.not_eq_true, Bool.not_eq_false, Bool.not_not, Bool.not_eq_eq_eq_not, Bool.not_true, Bool.not_false, Bool.false_eq_true, Bool.true_eq_false, ne_eq, Decidable.not_not, not_false_eq_true, not_true_eq_false] at c19
      refine skip ?_
      show Code.wp _ _ _ _ _
      refine region ?_
      refine sv (yMove h6) ?_
      refine sv (yAdd rfl rfl ⟨by omega, by omega⟩) ?_
      refine sv (yAsg rfl) ?_
      refine nil ?_
      exact ⟨_, _, rfl, ⟨k + 1, h0, h1, (h5.trans (congrArg (Value.int .i64) (by rw [take_snoc hx, lastF_snoc, if_neg c19]))), rfl, hS, (by omega), rfl⟩, by omega⟩
  ·
    simp only [Bool.and_eq_true, Bool.or_eq_true, Bool.and_eq_false_iff, Bool.or_eq_false_iff, decide_eq_true_eq, decide_eq_false_iff_not, Bool.not_eq_true, Bool.not_eq_false, Bool.not_not, Bool.not_eq_eq_eq_not, Bool.not_true, Bool.not_false, Bool.false_eq_true, Bool.true_eq_false, ne_eq, Decidable.not_not, not_false_eq_true, not_true_eq_false] at c10
    obtain rfl : k = log.length := by omega
    rw [List.take_length] at h5
    refine exit ?_
    show Code.wp _ _ _ _ _
    refine seq ?_
    refine region ?_
    refine sv (yMove h5) ?_
    refine sv (yAsg rfl) ?_
    refine nil ?_
    show Code.wp _ _ _ _ _
    refine wp_ret ?_
    exact retV (res1 rfl rfl) hS.ext
set_option maxHeartbeats 2000000 in
/-- barrage/barrageref11.by -/
theorem c_rby {t : Task} {hv nv fv : Value} {i now : Int} {log : List Msg} {lv : Value} {w0 : World} (h : RTask w0 [.int .i64 t.polders, hv, nv, fv] t) (hlg : Sl w0 5 RMsg lv log) (hok : TaskOk t) (hi : 0 ≤ i ∧ i < t.towns.length) (hll : log.length ≤ 1000) : CV Tryz.prog 90 #[.agg [.int .i64 t.polders, hv, nv, fv].toArray, lv, .int .i64 i, .int .i64 now] w0 (.int .i64 (byR t log now (twn t i).chans)) := by
  obtain ⟨hv', nv', fv', he0, hpol, hsh, hsn, hsf⟩ := id h
  obtain ⟨rfl, rfl, rfl⟩ : hv' = hv ∧ nv' = nv ∧ fv' = fv := by simpa [eq_comm] using he0
  obtain ⟨a1, cap1, rfl, hcap1, hmx1, hel1⟩ := id hsh
  obtain ⟨a2, cap2, rfl, hcap2, hmx2, hel2⟩ := id hsn
  obtain ⟨a3, cap3, rfl, hcap3, hmx3, hel3⟩ := id hsf
  obtain ⟨bt, ot, cst, hat, hlt, hcst, hRt, -⟩ := sl_at hsn (twn_i (t := t) hi)
  obtain ⟨dvt, rfl, -, -, -, -, hslt, -⟩ := hRt
  have hto := town_ok hok hi
  have htl := hto.lead
  obtain ⟨al, cl, rfl, hlcap, hlmx, hlel⟩ := id hlg
  obtain ⟨ad, cd, rfl, -⟩ := id hslt
  have hcl4 := chans_len hok hi
  refine enter Tryz.func90 rfl Tryz.ntmps90 rfl ?_
  have hS := St.start w0
  refine seq ?_
  refine region ?_
  refine sbox hS rfl rfl ?_; clear hS; intro b4 w hS
  refine sv (yAsg rfl) ?_
  refine nil ?_
  show Code.wp _ _ _ _ _
  refine seq ?_
  refine region ?_
  refine sv (yAsg rfl) ?_
  refine nil ?_
  show Code.wp _ _ _ _ _
  refine seq ?_
  refine seq ?_
  refine region ?_
  refine sv (yAsg rfl) ?_
  refine nil ?_
  show Code.wp _ _ _ _ _
  refine block ?_
  refine loop (fun f w zz => ∃ (k : Nat), f 1 = .slice al log.length cl ∧ f 2 = .int .i64 i ∧ f 3 = .int .i64 now ∧ f 4 = .pointer (some ⟨b4, 0, none⟩) ∧ f 9 = .int .i64 (byR t log now ((twn t i).chans.take k)) ∧ f 10 = .int .i64 (k : Int) ∧ StX [] w0 w [blk b4 [.int .i64 t.polders, .slice a1 t.chans.length cap1, .slice a2 t.towns.length cap2, .slice a3 t.floods.length cap3] 26] ∧ (k ≤ (twn t i).chans.length) ∧ zz = (twn t i).chans.length - k) _ ⟨_, rfl, 0, rfl, rfl, rfl, rfl, rfl, rfl, hS, (Nat.zero_le _), rfl⟩ ?_
  clear hS
  rintro f w _ ⟨k, h1, h2, h3, h4, h9, h10, hS, hk, rfl⟩
  refine seq ?_
  refine seq ?_
  refine region ?_
  refine sv (yMove h10) ?_
  refine sv (fa26_2 h4) ?_
  refine sv (yLdB rfl Tryz.isAgg23 (hS.at _) rfl) ?_
  refine sv (yMove h2) ?_
  refine sv (yIxa rfl hat rfl Tryz.runUnderlying23 Tryz.sizeOf36 (by omega) (by omega)) ?_
  refine sv (fa36_4 rfl) ?_
  refine sv (yLd rfl Tryz.isAgg34 ((hcst.ext hS.ext).at (j := 4) rfl)) ?_
  refine sv (yLen rfl Tryz.underlying34) ?_
  refine sv (yLss rfl rfl) ?_
  refine nil ?_
  show Code.wp _ _ _ _ _
  refine cond rfl (fun c22 => ?_) (fun c22 => ?_)
  ·
    simp only [Bool.and_eq_true, Bool.or_eq_true, Bool.and_eq_false_iff, Bool.or_eq_false_iff, decide_eq_true_eq, decide_eq_false_iff_not, Bool.not_eq_true, Bool.not_eq_false, Bool.not_not, Bool.not_eq_eq_eq_not, Bool.not_true, Bool.not_false, Bool.false_eq_true, Bool.true_eq_false, ne_eq, Decidable.not_not, not_false_eq_true, not_true_eq_false] at c22
    obtain ⟨c, hc, -⟩ := drop_of (l := (twn t i).chans) (k := k) (by omega)
    obtain ⟨bk, oq, csk, hak, hlk, hcsk, hRk, -⟩ := sl_at hslt hc
    obtain ⟨rfl, -⟩ := hRk
    have hcb := chan_mem hok (List.mem_of_getElem? hc)
    obtain ⟨bc, oc, csc, hac, hlc, hcsc, hRc, -⟩ := sl_at hsh (chn_i (t := t) hcb)
    obtain ⟨rfl, -⟩ := hRc
    have hco := chan_ok hok hcb
    have hqb := by_bd hok (all := log) (now := now) (i := i) k
    refine skip ?_
    show Code.wp _ _ _ _ _
    refine seq ?_
    refine block ?_
    refine seq ?_
    refine region ?_
    refine sv (fa26_2 h4) ?_
    refine sv (yLdB rfl Tryz.isAgg23 (hS.at _) rfl) ?_
    refine sv (yMove h2) ?_
    refine sv (yIxa rfl hat rfl Tryz.runUnderlying23 Tryz.sizeOf36 (by omega) (by omega)) ?_
    refine sv (fa36_4 rfl) ?_
    refine sv (yLd rfl Tryz.isAgg34 ((hcst.ext hS.ext).at (j := 4) rfl)) ?_
    refine sv (yMove h10) ?_
    refine sv (yIxa rfl hak rfl Tryz.runUnderlying34 Tryz.sizeOf3 (by omega) (by omega)) ?_
    refine sv (yLd rfl Tryz.isAgg3 ((hcsk.ext hS.ext).one)) ?_
    refine sv (yAsg rfl) ?_
    refine nil ?_
    show Code.wp _ _ _ _ _
    refine seq ?_
    refine region ?_
    refine sv (yAsg rfl) ?_
    refine nil ?_
    show Code.wp _ _ _ _ _
    refine seq ?_
    refine seq ?_
    refine region ?_
    refine sv (yAsg rfl) ?_
    refine nil ?_
    show Code.wp _ _ _ _ _
    refine block ?_
    refine loop (fun f w zz => ∃ (j : Nat), f 1 = .slice al log.length cl ∧ f 2 = .int .i64 i ∧ f 3 = .int .i64 now ∧ f 4 = .pointer (some ⟨b4, 0, none⟩) ∧ f 9 = .int .i64 (byR t log now ((twn t i).chans.take k)) ∧ f 10 = .int .i64 (k : Int) ∧ f 11 = .int .i64 c ∧ f 12 = .int .i64 (usedF (log.take j) now c) ∧ f 13 = .int .i64 (j : Int) ∧ StX [] w0 w [blk b4 [.int .i64 t.polders, .slice a1 t.chans.length cap1, .slice a2 t.towns.length cap2, .slice a3 t.floods.length cap3] 26] ∧ (j ≤ log.length) ∧ zz = log.length - j) _ ⟨_, rfl, 0, h1, h2, h3, h4, h9, h10, rfl, rfl, rfl, hS, (Nat.zero_le _), rfl⟩ ?_
    clear hS
    rintro f w _ ⟨j, h1, h2, h3, h4, h9, h10, h11, h12, h13, hS, hj, rfl⟩
    refine seq ?_
    refine seq ?_
    refine region ?_
    refine sv (yMove h13) ?_
    refine sv (yMove h1) ?_
    refine sv (yLen rfl Tryz.underlying62) ?_
    refine sv (yLss rfl rfl) ?_
    refine nil ?_
    show Code.wp _ _ _ _ _
    refine cond rfl (fun c37 => ?_) (fun c37 => ?_)
    ·
      simp only [Bool.and_eq_true, Bool.or_eq_true, Bool.and_eq_false_iff, Bool.or_eq_false_iff, decide_eq_true_eq, decide_eq_false_iff_not, Bool.not_eq_true, Bool.not_eq_false, Bool.not_not, Bool.not_eq_eq_eq_not, Bool.not_true, Bool.not_false, Bool.false_eq_true, Bool.true_eq_false, ne_eq, Decidable.not_not, not_false_eq_true, not_true_eq_false] at c37
      obtain ⟨x, hx, hd⟩ := drop_of (l := log) (k := j) (by omega)
      obtain ⟨bx, ox, csx, hax, hlx, hcsx, hRx, -⟩ := sl_at hlg hx
      obtain ⟨rfl, -⟩ := hRx
      have hub := usedF_bd now c (log.take j)
      have htl : (log.take j).length ≤ j := by simp; omega
      refine skip ?_
      show Code.wp _ _ _ _ _
      refine seq ?_
      refine block ?_
      refine seq ?_
      refine region ?_
      refine sv (yMove h1) ?_
      refine sv (yMove h13) ?_
      refine sv (yIxa rfl hax rfl Tryz.runUnderlying62 Tryz.sizeOf70 (by omega) (by omega)) ?_
      refine sv (fa70_3 rfl) ?_
      refine sv (yLd rfl Tryz.isAgg3 ((hcsx.ext hS.ext).at (j := 3) rfl)) ?_
      refine sv (yMove h11) ?_
      refine sv (yEql rfl rfl) ?_
      refine sv (yMove rfl) ?_
      refine sg rfl rfl rfl (fun g => (yMove h1)) (fun v48 g48 => ?_)
      refine sg rfl rfl rfl (fun g => (yMove h13)) (fun v49 g49 => ?_)
      refine sg rfl rfl rfl (fun g => (yIxa (g48.1 g) hax (g49.1 g) Tryz.runUnderlying62 Tryz.sizeOf70 (by omega) (by omega))) (fun v50 g50 => ?_)
      refine sg rfl rfl rfl (fun g => (fa70_4 (g50.1 g))) (fun v51 g51 => ?_)
      refine sg rfl rfl rfl (fun g => (yLd (g51.1 g) Tryz.isAgg3 ((hcsx.ext hS.ext).at (j := 4) rfl))) (fun v52 g52 => ?_)
      refine sg rfl rfl rfl (fun g => (yMove h3)) (fun v53 g53 => ?_)
      refine sg rfl rfl rfl (fun g => (yEql (g52.1 g) (g53.1 g))) (fun v54 g54 => ?_)
      refine sv (yAnd rfl (fun hB => (g54.1 hB)) rfl) ?_
      refine nil ?_
      show Code.wp _ _ _ _ _
      refine cond rfl (fun c55 => ?_) (fun c55 => ?_)
      ·
        simp only [Bool.and_eq_true, Bool.or_eq_true, Bool.and_eq_false_iff, Bool.or_eq_false_iff, decide_eq_true_eq, decide_eq_false_iff_not, Bool.not_eq_true, Bool.not_eq_false, Bool.not_not, Bool.not_eq_eq_eq_not, Bool.not_true, Bool.not_false, Bool.false_eq_true, Bool.true_eq_false, ne_eq, Decidable.not_not, not_false_eq_true, not_true_eq_false] at c55
        refine region ?_
        refine sv (yMove h12) ?_
        refine sv (yAdd rfl rfl ⟨by omega, by omega⟩) ?_
        refine sv (yAsg rfl) ?_
        refine nil ?_
        show Code.wp _ _ _ _ _
        refine region ?_
        refine sv (yMove h13) ?_
        refine sv (yAdd rfl rfl ⟨by omega, by omega⟩) ?_
        refine sv (yAsg rfl) ?_
        refine nil ?_
        exact ⟨_, _, rfl, ⟨j + 1, h1, h2, h3, h4, h9, h10, h11, (rfl.trans (congrArg (Value.int .i64) (by rw [take_snoc hx, usedF_snoc, if_pos c55]))), rfl, hS, (by omega), rfl⟩, by omega⟩
      ·
        simp only [Bool.and_eq_true, Bool.or_eq_true, Bool.and_eq_false_iff, Bool.or_eq_false_iff, decide_eq_true_eq, decide_eq_false_iff_not, Bool.not_eq_true, Bool.not_eq_false, Bool.not_not, Bool.not_eq_eq_eq_not, Bool.not_true, Bool.not_false, Bool.false_eq_true, Bool.true_eq_false, ne_eq, Decidable.not_not, not_false_eq_true, not_true_eq_false] at c55
        refine skip ?_
        show Code.wp _ _ _ _ _
        refine region ?_
        refine sv (yMove h13) ?_
        refine sv (yAdd rfl rfl ⟨by omega, by omega⟩) ?_
        refine sv (yAsg rfl) ?_
        refine nil ?_
        exact ⟨_, _, rfl, ⟨j + 1, h1, h2, h3, h4, h9, h10, h11, (h12.trans (congrArg (Value.int .i64) (by rw [take_snoc hx, usedF_snoc, if_neg (fun h => by omega)]))), rfl, hS, (by omega), rfl⟩, by omega⟩
    ·
      simp only [Bool.and_eq_true, Bool.or_eq_true, Bool.and_eq_false_iff, Bool.or_eq_false_iff, decide_eq_true_eq, decide_eq_false_iff_not, Bool.not_eq_true, Bool.not_eq_false, Bool.not_not, Bool.not_eq_eq_eq_not, Bool.not_true, Bool.not_false, Bool.false_eq_true, Bool.true_eq_false, ne_eq, Decidable.not_not, not_false_eq_true, not_true_eq_false] at c37
      obtain rfl : j = log.length := by omega
      rw [List.take_length] at h12
      obtain ⟨bq, og, haq⟩ := chan_if hsh (q := byR t log now ((twn t i).chans.take k)) (by omega)
      refine exit ?_
      show Code.wp _ _ _ _ _
      refine seq ?_
      refine region_draw mixed (by kernel_rfl) hS ?_
      refine qv (fun w hS => (fa26_1 h4)) ?_
      refine qv (fun w hS => (yLdB rfl Tryz.isAgg22 (hS.at _) rfl)) ?_
      refine qv (fun w hS => (yMove h11)) ?_
      refine qv (fun w hS => (yIxa rfl hac rfl Tryz.runUnderlying22 Tryz.sizeOf41 (by omega) (by omega))) ?_
      refine qv (fun w hS => (fa41_2 rfl)) ?_
      refine qv (fun w hS => (yLd rfl Tryz.isAgg3 ((hcsc.ext hS.ext).at (j := 2) rfl))) ?_
      refine qv (fun w hS => (yMove h12)) ?_
      refine qv (fun w hS => (yGtr rfl rfl)) ?_
      refine qv (fun w hS => (yMove rfl)) ?_
      refine qg rfl rfl rfl (fun g w hS => (yMove h9)) (fun v67 g67 => ?_)
      refine qg rfl rfl rfl (fun g w hS => (yLss (g67.1 g) rfl)) (fun v68 g68 => ?_)
      refine qg rfl rfl rfl (fun g w hS => (yMove (g68.1 g))) (fun v69 g69 => ?_)
      refine qgg rfl rfl g69 (fun g w hS => (fa26_1 h4)) (fun v70 g70 => ?_)
      refine qgg rfl rfl g69 (fun g w hS => (yLdB (g70.1 g) Tryz.isAgg22 (hS.at _) rfl)) (fun v71 g71 => ?_)
      refine qgg rfl rfl g69 (fun g w hS => (yMove h11)) (fun v72 g72 => ?_)
      refine qgg rfl rfl g69 (fun g w hS => (yIxa (g71.1 g) hac (g72.1 g) Tryz.runUnderlying22 Tryz.sizeOf41 (by omega) (by omega))) (fun v73 g73 => ?_)
      refine qgg rfl rfl g69 (fun g w hS => (fa41_1 (g73.1 g))) (fun v74 g74 => ?_)
      refine qgg rfl rfl g69 (fun g w hS => (yLd (g74.1 g) Tryz.isAgg3 ((hcsc.ext hS.ext).at (j := 1) rfl))) (fun v75 g75 => ?_)
      refine qgg rfl rfl g69 (fun g w hS => (fa26_1 h4)) (fun v76 g76 => ?_)
      refine qgg rfl rfl g69 (fun g w hS => (yLdB (g76.1 g) Tryz.isAgg22 (hS.at _) rfl)) (fun v77 g77 => ?_)
      refine qgg rfl rfl g69 (fun g w hS => (yMove h9)) (fun v78 g78 => ?_)
      refine qgg rfl rfl g69 (fun g w hS => (yIxa (g77.1 g) (haq (by have := of_decide_eq_false g.2; omega)).1 (g78.1 g) Tryz.runUnderlying22 Tryz.sizeOf41 (by have := of_decide_eq_false g.2; omega) (by have := of_decide_eq_false g.2; omega))) (fun v79 g79 => ?_)
      refine qgg rfl rfl g69 (fun g w hS => (fa41_1 (g79.1 g))) (fun v80 g80 => ?_)
      refine qgg rfl rfl g69 (fun g w hS => (yLd (g80.1 g) Tryz.isAgg3 (((haq (by have := of_decide_eq_false g.2; omega)).2.ext hS.ext).at (j := 1) rfl))) (fun v81 g81 => ?_)
      refine qgg rfl rfl g69 (fun g w hS => (yLss (g75.1 g) (g81.1 g))) (fun v82 g82 => ?_)
      refine qg rfl rfl rfl (fun g w hS => (yOr (g69.1 g) rfl (fun hB => (g82.1 ⟨g, hB⟩)))) (fun v83 g83 => ?_)
      refine qv (fun w hS => (yAnd rfl (fun hB => (g83.1 hB)) rfl)) ?_
      clear hS; refine qnil (fun w hS => ?_)
      show Code.wp _ _ _ _ _
      refine cond rfl (fun c84 => ?_) (fun c84 => ?_)
      ·
        refine region ?_
        refine sv (yMove h11) ?_
        refine sv (yAsg rfl) ?_
        refine nil ?_
        show Code.wp _ _ _ _ _
        refine region ?_
        refine sv (yMove h10) ?_
        refine sv (yAdd rfl rfl ⟨by omega, by omega⟩) ?_
        refine sv (yAsg rfl) ?_
        refine nil ?_
        exact ⟨_, _, rfl, ⟨k + 1, h1, h2, h3, h4, (rfl.trans (congrArg (Value.int .i64) (by rw [take_snoc hc, byR_snoc, byStep_t c84]))), rfl, hS, (by omega), rfl⟩, by omega⟩
      ·
        refine skip ?_
        show Code.wp _ _ _ _ _
        refine region ?_
        refine sv (yMove h10) ?_
        refine sv (yAdd rfl rfl ⟨by omega, by omega⟩) ?_
        refine sv (yAsg rfl) ?_
        refine nil ?_
        exact ⟨_, _, rfl, ⟨k + 1, h1, h2, h3, h4, (h9.trans (congrArg (Value.int .i64) (by rw [take_snoc hc, byR_snoc, byStep_f c84]))), rfl, hS, (by omega), rfl⟩, by omega⟩
  ·
    simp only [Bool.and_eq_true, Bool.or_eq_true, Bool.and_eq_false_iff, Bool.or_eq_false_iff, decide_eq_true_eq, decide_eq_false_iff_not, Bool.not_eq_true, Bool.not_eq_false, Bool.not_not, Bool.not_eq_eq_eq_not, Bool.not_true, Bool.not_false, Bool.false_eq_true, Bool.true_eq_false, ne_eq, Decidable.not_not, not_false_eq_true, not_true_eq_false] at c22
    obtain rfl : k = (twn t i).chans.length := by omega
    rw [List.take_length] at h9
    refine exit ?_
    show Code.wp _ _ _ _ _
    refine seq ?_
    refine region ?_
    refine sv (yMove h9) ?_
    refine sv (yAsg rfl) ?_
    refine nil ?_
    show Code.wp _ _ _ _ _
    refine wp_ret ?_
    exact retV (res1 rfl rfl) hS.ext
set_option maxHeartbeats 2000000 in
/-- barrage/barrageref11.logged -/
theorem c_rlogged {t : Task} {hv nv fv : Value} {log : List Msg} {lv : Value} {w0 : World} (h : RTask w0 [.int .i64 t.polders, hv, nv, fv] t) (hlg : Sl w0 5 RMsg lv log) (hok : TaskOk t) : CV Tryz.prog 83 #[.agg [.int .i64 t.polders, hv, nv, fv].toArray, lv] w0 (.int .i64 (wrongF t log)) := by
  obtain ⟨hv', nv', fv', he0, hpol, hsh, hsn, hsf⟩ := id h
  obtain ⟨rfl, rfl, rfl⟩ : hv' = hv ∧ nv' = nv ∧ fv' = fv := by simpa [eq_comm] using he0
  obtain ⟨a1, cap1, rfl, hcap1, hmx1, hel1⟩ := id hsh
  obtain ⟨a2, cap2, rfl, hcap2, hmx2, hel2⟩ := id hsn
  obtain ⟨a3, cap3, rfl, hcap3, hmx3, hel3⟩ := id hsf
  obtain ⟨al, cl, rfl, hlcap, hlmx, hlel⟩ := id hlg
  have hn8 := hok.ntw
  have hc4 := hok.nch
  refine enter Tryz.func83 rfl Tryz.ntmps83 rfl ?_
  have hS := St.start w0
  refine seq ?_
  refine region ?_
  refine sbox hS rfl rfl ?_; clear hS; intro b2 w hS
  refine sv (yAsg rfl) ?_
  refine nil ?_
  show Code.wp _ _ _ _ _
  refine seq ?_
  refine seq ?_
  refine region ?_
  refine sv (yMove rfl) ?_
  refine sv (yLen rfl Tryz.underlying62) ?_
  refine sv (yGtr rfl rfl) ?_
  refine nil ?_
  show Code.wp _ _ _ _ _
  refine cond rfl (fun c9 => ?_) (fun c9 => ?_)
  ·
    simp only [Bool.and_eq_true, Bool.or_eq_true, Bool.and_eq_false_iff, Bool.or_eq_false_iff, decide_eq_true_eq, decide_eq_false_iff_not, Bool.not_eq_true, Bool.not_eq_false, Bool.not_not, Bool.not_eq_eq_eq_not, Bool.not_true, Bool.not_false, Bool.false_eq_true, Bool.true_eq_false, ne_eq, Decidable.not_not, not_false_eq_true, not_true_eq_false] at c9
    refine seq ?_
    refine region ?_
    refine sv (yAsg rfl) ?_
    refine nil ?_
    show Code.wp _ _ _ _ _
    refine wp_ret (thenR ?_)
    exact retV (res1 rfl (eqI (by unfold wrongF; rw [if_pos c9]))) hS.ext
  ·
    simp only [Bool.and_eq_true, Bool.or_eq_true, Bool.and_eq_false_iff, Bool.or_eq_false_iff, decide_eq_true_eq, decide_eq_false_iff_not, Bool.not_eq_true, Bool.not_eq_false, Bool.not_not, Bool.not_eq_eq_eq_not, Bool.not_true, Bool.not_false, Bool.false_eq_true, Bool.true_eq_false, ne_eq, Decidable.not_not, not_false_eq_true, not_true_eq_false] at c9
    refine skip ?_
    show Code.wp _ _ _ _ _
    refine seq ?_
    refine seq ?_
    refine region ?_
    refine sv (yAsg rfl) ?_
    refine nil ?_
    show Code.wp _ _ _ _ _
    refine block ?_
    refine loop (fun f w zz => ∃ (k : Nat), f 1 = .slice al log.length cl ∧ f 2 = .pointer (some ⟨b2, 0, none⟩) ∧ f 5 = .int .i64 (k : Int) ∧ StX [] w0 w [blk b2 [.int .i64 t.polders, .slice a1 t.chans.length cap1, .slice a2 t.towns.length cap2, .slice a3 t.floods.length cap3] 26] ∧ (k ≤ log.length) ∧ (wrongL t log 0 0 = wrongL t (log.drop k) k (prv log k)) ∧ (0 ≤ prv log k) ∧ zz = log.length - k) _ ⟨_, rfl, 0, rfl, rfl, rfl, hS, (Nat.zero_le _), (rfl), (Int.le_refl _), rfl⟩ ?_
    clear hS
    rintro f w _ ⟨k, h1, h2, h5, hS, hk, hI, hp0, rfl⟩
    refine seq ?_
    refine seq ?_
    refine region ?_
    refine sv (yMove h5) ?_
    refine sv (yMove h1) ?_
    refine sv (yLen rfl Tryz.underlying62) ?_
    refine sv (yLss rfl rfl) ?_
    refine nil ?_
    show Code.wp _ _ _ _ _
    refine cond rfl (fun c13 => ?_) (fun c13 => ?_)
    ·
      simp only [Bool.and_eq_true, Bool.or_eq_true, Bool.and_eq_false_iff, Bool.or_eq_false_iff, decide_eq_true_eq, decide_eq_false_iff_not, Bool.not_eq_true, Bool.not_eq_false, Bool.not_not, Bool.not_eq_eq_eq_not, Bool.not_true, Bool.not_false, Bool.false_eq_true, Bool.true_eq_false, ne_eq, Decidable.not_not, not_false_eq_true, not_true_eq_false] at c13
      obtain ⟨x, hx, hd⟩ := drop_of (l := log) (k := k) (by omega)
      obtain ⟨bx, ox, csx, hax, hlx, hcsx, hRx, -⟩ := sl_at hlg hx
      obtain ⟨rfl, -⟩ := hRx
      obtain ⟨z, bz, oz, haz⟩ := msg_if hlg k hk
      have hb : badR t x k z.sent = badM t x k (prv log k) := badR_eq hp0 (fun hh => (haz hh).2.2) (fun hh => by rw [hh]; rfl)
      refine skip ?_
      show Code.wp _ _ _ _ _
      refine seq ?_
      refine block ?_
      refine seq ?_
      refine region ?_
      refine sv (yMove h1) ?_
      refine sv (yMove h5) ?_
      refine sv (yIxa rfl hax rfl Tryz.runUnderlying62 Tryz.sizeOf70 (by omega) (by omega)) ?_
      refine sv (yLdA rfl Tryz.isAgg70 Tryz.sizeOf70 (hcsx.ext hS.ext) rfl) ?_
      refine salloc hS Tryz.zeroValue70 rfl ?_; clear hS; intro b6 w hS
      refine sst hS rfl rfl Tryz.sizeOf70 rfl rfl rfl rfl ?_; clear hS; intro w hS
      refine nil ?_
      show Code.wp _ _ _ _ _
      refine seq ?_
      refine region_draw mixed (by kernel_rfl) hS ?_
      refine qv (fun w hS => (fa70_0 rfl)) ?_
      refine qv (fun w hS => (yLdB rfl Tryz.isAgg3 (hS.at _) rfl)) ?_
      refine qv (fun w hS => (yMove h5)) ?_
      refine qv (fun w hS => (yAdd rfl rfl ⟨by omega, by omega⟩)) ?_
      refine qv (fun w hS => (yNeq rfl rfl)) ?_
      refine qv (fun w hS => (yMove rfl)) ?_
      refine qg rfl rfl rfl (fun g w hS => (fa70_1 rfl)) (fun v26 g26 => ?_)
      refine qg rfl rfl rfl (fun g w hS => (yLdB (g26.1 g) Tryz.isAgg3 (hS.at _) rfl)) (fun v27 g27 => ?_)
      refine qg rfl rfl rfl (fun g w hS => (fa26_2 h2)) (fun v28 g28 => ?_)
      refine qg rfl rfl rfl (fun g w hS => (yLdB (g28.1 g) Tryz.isAgg23 (hS.at _) rfl)) (fun v29 g29 => ?_)
      refine qg rfl rfl rfl (fun g w hS => (yLen (g29.1 g) Tryz.underlying23)) (fun v30 g30 => ?_)
      refine qg rfl rfl rfl (fun g w hS => (ySub (g30.1 g) rfl ⟨by omega, by omega⟩)) (fun v31 g31 => ?_)
      refine qgc rfl rfl rfl Tryz.call66 (fun g => (.cons (g27.1 g) (.cons rfl (.cons (g31.1 g) .nil)))) (fun g w hS => c_rin) (fun v32 g32 => ?_)
      refine qg rfl rfl rfl (fun g w hS => (yNot (g32.1 g))) (fun v33 g33 => ?_)
      refine qv (fun w hS => (yOr rfl rfl (fun hB => (g33.1 hB)))) ?_
      refine qv (fun w hS => (yMove rfl)) ?_
      refine qg rfl rfl rfl (fun g w hS => (fa70_2 rfl)) (fun v36 g36 => ?_)
      refine qg rfl rfl rfl (fun g w hS => (yLdB (g36.1 g) Tryz.isAgg3 (hS.at _) rfl)) (fun v37 g37 => ?_)
      refine qgc rfl rfl rfl Tryz.call66 (fun g => (.cons (g37.1 g) (.cons rfl (.cons rfl .nil)))) (fun g w hS => c_rin) (fun v38 g38 => ?_)
      refine qg rfl rfl rfl (fun g w hS => (yNot (g38.1 g))) (fun v39 g39 => ?_)
      refine qv (fun w hS => (yOr rfl rfl (fun hB => (g39.1 hB)))) ?_
      refine qv (fun w hS => (yMove rfl)) ?_
      refine qg rfl rfl rfl (fun g w hS => (fa70_3 rfl)) (fun v42 g42 => ?_)
      refine qg rfl rfl rfl (fun g w hS => (yLdB (g42.1 g) Tryz.isAgg3 (hS.at _) rfl)) (fun v43 g43 => ?_)
      refine qg rfl rfl rfl (fun g w hS => (fa26_1 h2)) (fun v44 g44 => ?_)
      refine qg rfl rfl rfl (fun g w hS => (yLdB (g44.1 g) Tryz.isAgg22 (hS.at _) rfl)) (fun v45 g45 => ?_)
      refine qg rfl rfl rfl (fun g w hS => (yLen (g45.1 g) Tryz.underlying22)) (fun v46 g46 => ?_)
      refine qg rfl rfl rfl (fun g w hS => (ySub (g46.1 g) rfl ⟨by omega, by omega⟩)) (fun v47 g47 => ?_)
      refine qgc rfl rfl rfl Tryz.call66 (fun g => (.cons (g43.1 g) (.cons rfl (.cons (g47.1 g) .nil)))) (fun g w hS => c_rin) (fun v48 g48 => ?_)
      refine qg rfl rfl rfl (fun g w hS => (yNot (g48.1 g))) (fun v49 g49 => ?_)
      refine qv (fun w hS => (yOr rfl rfl (fun hB => (g49.1 hB)))) ?_
      refine qv (fun w hS => (yMove rfl)) ?_
      refine qg rfl rfl rfl (fun g w hS => (fa70_4 rfl)) (fun v52 g52 => ?_)
      refine qg rfl rfl rfl (fun g w hS => (yLdB (g52.1 g) Tryz.isAgg3 (hS.at _) rfl)) (fun v53 g53 => ?_)
      refine qgc rfl rfl rfl Tryz.call73 (fun g => (.cons (g53.1 g) .nil)) (fun g w hS => c_rtick) (fun v54 g54 => ?_)
      refine qg rfl rfl rfl (fun g w hS => (yNot (g54.1 g))) (fun v55 g55 => ?_)
      refine qv (fun w hS => (yOr rfl rfl (fun hB => (g55.1 hB)))) ?_
      refine qv (fun w hS => (yMove rfl)) ?_
      refine qg rfl rfl rfl (fun g w hS => (yMove h5)) (fun v58 g58 => ?_)
      refine qg rfl rfl rfl (fun g w hS => (yGtr (g58.1 g) rfl)) (fun v59 g59 => ?_)
      refine qg rfl rfl rfl (fun g w hS => (yMove (g59.1 g))) (fun v60 g60 => ?_)
      refine qgg rfl rfl g60 (fun g w hS => (fa70_4 rfl)) (fun v61 g61 => ?_)
      refine qgg rfl rfl g60 (fun g w hS => (yLdB (g61.1 g) Tryz.isAgg3 (hS.at _) rfl)) (fun v62 g62 => ?_)
      refine qgg rfl rfl g60 (fun g w hS => (yMove h1)) (fun v63 g63 => ?_)
      refine qgg rfl rfl g60 (fun g w hS => (yMove h5)) (fun v64 g64 => ?_)
      refine qgg rfl rfl g60 (fun g w hS => (ySub (g64.1 g) rfl ⟨by omega, by omega⟩)) (fun v65 g65 => ?_)
      refine qgg rfl rfl g60 (fun g w hS => (yIxa (g63.1 g) (haz (of_decide_eq_true g.2)).1 (g65.1 g) Tryz.runUnderlying62 Tryz.sizeOf70 (by have := (of_decide_eq_true g.2); omega) (by have := (of_decide_eq_true g.2); omega))) (fun v66 g66 => ?_)
      refine qgg rfl rfl g60 (fun g w hS => (fa70_4 (g66.1 g))) (fun v67 g67 => ?_)
      refine qgg rfl rfl g60 (fun g w hS => (yLd (g67.1 g) Tryz.isAgg3 (((haz (of_decide_eq_true g.2)).2.1.ext hS.ext).at (j := 4) rfl))) (fun v68 g68 => ?_)
      refine qgg rfl rfl g60 (fun g w hS => (yLss (g62.1 g) (g68.1 g))) (fun v69 g69 => ?_)
      refine qg rfl rfl rfl (fun g w hS => (yAnd (g60.1 g) (fun hB => (g69.1 ⟨g, hB⟩)) rfl)) (fun v70 g70 => ?_)
      refine qv (fun w hS => (yOr rfl rfl (fun hB => (g70.1 hB)))) ?_
      clear hS; refine qnil (fun w hS => ?_)
      show Code.wp _ _ _ _ _
      refine cond rfl (fun c71 => ?_) (fun c71 => ?_)
      ·
        refine seq ?_
        refine region ?_
        refine sv (yAsg rfl) ?_
        refine nil ?_
        show Code.wp _ _ _ _ _
        refine wp_ret (blockR (thenR (thenR (blockR (thenR ?_)))))
        exact retV (res1 rfl (eqI (by unfold wrongF; rw [if_neg c9, hI, wrong_hit hd (hb.symm.trans c71)]))) hS.ext
      ·
        refine skip ?_
        show Code.wp _ _ _ _ _
        refine region ?_
        refine sv (yMove h5) ?_
        refine sv (yAdd rfl rfl ⟨by omega, by omega⟩) ?_
        refine sv (yAsg rfl) ?_
        refine nil ?_
        exact ⟨_, _, rfl, ⟨k + 1, h1, h2, rfl, (hS.sub (.cons _ (List.Sublist.refl _))), (by omega), (hI.trans (wrong_step hd hx (hb.symm.trans c71))), (by rw [prv_succ hx]; exact badM_sent (hb.symm.trans c71) hp0), rfl⟩, by omega⟩
    ·
      simp only [Bool.and_eq_true, Bool.or_eq_true, Bool.and_eq_false_iff, Bool.or_eq_false_iff, decide_eq_true_eq, decide_eq_false_iff_not, Bool.not_eq_true, Bool.not_eq_false, Bool.not_not, Bool.not_eq_eq_eq_not, Bool.not_true, Bool.not_false, Bool.false_eq_true, Bool.true_eq_false, ne_eq, Decidable.not_not, not_false_eq_true, not_true_eq_false] at c13
      obtain rfl : k = log.length := by omega
      refine exit ?_
      show Code.wp _ _ _ _ _
      refine seq ?_
      refine region ?_
      refine sv (yAsg rfl) ?_
      refine nil ?_
      show Code.wp _ _ _ _ _
      refine wp_ret ?_
      exact retV (res1 rfl (eqI (by unfold wrongF; rw [if_neg c9, hI, List.drop_length]; rfl))) hS.ext
set_option maxHeartbeats 2000000 in
/-- barrage/barrageref11.Knows -/
theorem c_rKnows {t : Task} {hv nv fv : Value} {i tk : Int} {log : List Msg} {lv : Value} {w0 : World} (h : RTask w0 [.int .i64 t.polders, hv, nv, fv] t) (hlg : Sl w0 5 RMsg lv log) : CV Tryz.prog 32 #[.agg [.int .i64 t.polders, hv, nv, fv].toArray, lv, .int .i64 i, .int .i64 tk] w0 (.tuple #[.int .i64 (knowsR t log i tk).1, .int .i64 (knowsR t log i tk).2.1, .int .i64 (knowsR t log i tk).2.2]) := by
  obtain ⟨hv', nv', fv', he0, hpol, hsh, hsn, hsf⟩ := id h
  obtain ⟨rfl, rfl, rfl⟩ : hv' = hv ∧ nv' = nv ∧ fv' = fv := by simpa [eq_comm] using he0
  obtain ⟨a1, cap1, rfl, hcap1, hmx1, hel1⟩ := id hsh
  obtain ⟨a2, cap2, rfl, hcap2, hmx2, hel2⟩ := id hsn
  obtain ⟨a3, cap3, rfl, hcap3, hmx3, hel3⟩ := id hsf
  obtain ⟨al, cl, rfl, hlcap, hlmx, hlel⟩ := id hlg
  refine enter Tryz.func32 rfl Tryz.ntmps32 rfl ?_
  have hS := St.start w0
  refine seq ?_
  refine region ?_
  refine sbox hS rfl rfl ?_; clear hS; intro b4 w hS
  refine sv (yAsg rfl) ?_
  refine sv (yAsg rfl) ?_
  refine sv (yAsg rfl) ?_
  refine nil ?_
  show Code.wp _ _ _ _ _
  refine seq ?_
  refine region ?_
  refine sv (yLdBA rfl Tryz.isAgg26 Tryz.sizeOf26 (hS.at _) rfl rfl) ?_
  refine sv (yMove rfl) ?_
  refine scall Tryz.call70 (.cons rfl (.cons rfl .nil)) (c_rasked (h.ext hS.ext)) ?_
  rintro _ w ⟨rfl, hE⟩; replace hS := hS.step hE; clear hE
  refine sv (yAsg rfl) ?_
  refine nil ?_
  show Code.wp _ _ _ _ _
  refine seqJ (n := 68) (fun f w => ∃ (e1 : Int), f 1 = .slice al log.length cl ∧ f 2 = .int .i64 i ∧ f 3 = .int .i64 tk ∧ f 4 = .pointer (some ⟨b4, 0, none⟩) ∧ f 11 = .int .i64 e1 ∧ StX [] w0 w [blk b4 [.int .i64 t.polders, .slice a1 t.chans.length cap1, .slice a2 t.towns.length cap2, .slice a3 t.floods.length cap3] 26] ∧ (e1 = if ofE t i = 0 then wrongF t log else ofE t i) ∧ True) ?_ ?_
  ·
    refine seq ?_
    refine region ?_
    refine sv (yMove rfl) ?_
    refine sv (yEql rfl rfl) ?_
    refine nil ?_
    show Code.wp _ _ _ _ _
    refine cond rfl (fun c20 => ?_) (fun c20 => ?_)
    ·
      simp only [Bool.and_eq_true, Bool.or_eq_true, Bool.and_eq_false_iff, Bool.or_eq_false_iff, decide_eq_true_eq, decide_eq_false_iff_not, Bool.not_eq_true, Bool.not_eq_false, Bool.not_not, Bool.not_eq_eq_eq_not, Bool.not_true, Bool.not_false, Bool.false_eq_true, Bool.true_eq_false, ne_eq, Decidable.not_not, not_false_eq_true, not_true_eq_false] at c20
      obtain ⟨hok, -⟩ := ofE_ok c20
      refine region ?_
      refine sv (yLdBA rfl Tryz.isAgg26 Tryz.sizeOf26 (hS.at _) rfl rfl) ?_
      refine sv (yMove rfl) ?_
      refine scall Tryz.call83 (.cons rfl (.cons rfl .nil)) (c_rlogged (h.ext hS.ext) (hlg.ext RMsg.stays hS.ext) hok) ?_
      rintro _ w ⟨rfl, hE⟩; replace hS := hS.step hE; clear hE
      refine sv (yAsg rfl) ?_
      refine nil ?_
      exact ⟨_, rfl, _, rfl, rfl, rfl, rfl, rfl, hS, ((if_pos c20).symm), trivial⟩
    ·
      simp only [Bool.and_eq_true, Bool.or_eq_true, Bool.and_eq_false_iff, Bool.or_eq_false_iff, decide_eq_true_eq, decide_eq_false_iff_not, Bool.not_eq_true, Bool.not_eq_false, Bool.not_not, Bool.not_eq_eq_eq_not, Bool.not_true, Bool.not_false, Bool.false_eq_true, Bool.true_eq_false, ne_eq, Decidable.not_not, not_false_eq_true, not_true_eq_false] at c20
      refine skip ?_
      exact ⟨_, rfl, _, rfl, rfl, rfl, rfl, rfl, hS, ((if_neg c20).symm), trivial⟩
  ·
    clear hS; rintro f w ⟨e1, h1, h2, h3, h4, h11, hS, he1, -⟩
    refine seqJ (n := 68) (fun f w => f 1 = .slice al log.length cl ∧ f 2 = .int .i64 i ∧ f 3 = .int .i64 tk ∧ f 4 = .pointer (some ⟨b4, 0, none⟩) ∧ f 11 = .int .i64 (knowsE t log i tk) ∧ StX [] w0 w [blk b4 [.int .i64 t.polders, .slice a1 t.chans.length cap1, .slice a2 t.towns.length cap2, .slice a3 t.floods.length cap3] 26] ∧ True) ?_ ?_
    ·
      refine seq ?_
      refine region ?_
      refine sv (yMove h11) ?_
      refine sv (yEql rfl rfl) ?_
      refine sv (yMove rfl) ?_
      refine sg rfl rfl rfl (fun g => (yMove h3)) (fun v27 g27 => ?_)
      refine sgc hS rfl rfl rfl Tryz.call73 (fun g => (.cons (g27.1 g) .nil)) (fun g => c_rtick) ?_; clear hS; intro v28 w hS g28
      refine sg rfl rfl rfl (fun g => (yNot (g28.1 g))) (fun v29 g29 => ?_)
      refine sv (yAnd rfl (fun hB => (g29.1 hB)) rfl) ?_
      refine nil ?_
      show Code.wp _ _ _ _ _
      refine cond rfl (fun c30 => ?_) (fun c30 => ?_)
      ·
        refine region ?_
        refine sv (yAsg rfl) ?_
        refine nil ?_
        exact ⟨_, rfl, h1, h2, h3, h4, (rfl.trans (congrArg (Value.int .i64) ((knJ_y he1 c30).symm))), hS, trivial⟩
      ·
        refine skip ?_
        exact ⟨_, rfl, h1, h2, h3, h4, (h11.trans (congrArg (Value.int .i64) ((knJ_n he1 c30).symm))), hS, trivial⟩
    ·
      clear hS; rintro f w ⟨h1, h2, h3, h4, h11, hS, -⟩
      refine seq ?_
      refine seq ?_
      refine region ?_
      refine sv (yMove h11) ?_
      refine sv (yNeq rfl rfl) ?_
      refine nil ?_
      show Code.wp _ _ _ _ _
      refine cond rfl (fun c32 => ?_) (fun c32 => ?_)
      ·
        simp only [Bool.and_eq_true, Bool.or_eq_true, Bool.and_eq_false_iff, Bool.or_eq_false_iff, decide_eq_true_eq, decide_eq_false_iff_not, Bool.not_eq_true, Bool.not_eq_false, Bool.not_not, Bool.not_eq_eq_eq_not, Bool.not_true, Bool.not_false, Bool.false_eq_true, Bool.true_eq_false, ne_eq, Decidable.not_not, not_false_eq_true, not_true_eq_false] at c32
        refine seq ?_
        refine region ?_
        refine sv (yMove h11) ?_
        refine sv (yAsg rfl) ?_
        refine sv (yAsg rfl) ?_
        refine sv (yAsg rfl) ?_
        refine nil ?_
        show Code.wp _ _ _ _ _
        have hf := knows_err rfl c32
        refine wp_ret (thenR ?_)
        exact retV (res3 rfl (fstI hf) (thd1I hf) (thd2I hf)) hS.ext
      ·
        simp only [Bool.and_eq_true, Bool.or_eq_true, Bool.and_eq_false_iff, Bool.or_eq_false_iff, decide_eq_true_eq, decide_eq_false_iff_not, Bool.not_eq_true, Bool.not_eq_false, Bool.not_not, Bool.not_eq_eq_eq_not, Bool.not_true, Bool.not_false, Bool.false_eq_true, Bool.true_eq_false, ne_eq, Decidable.not_not, not_false_eq_true, not_true_eq_false] at c32
        obtain ⟨hok, hw⟩ := knowsE_wrong c32
        obtain ⟨-, hmo, -, -⟩ := wrongF_ok hw
        have hf := knowsR_S c32
        refine skip ?_
        show Code.wp _ _ _ _ _
        refine seq ?_
        refine region ?_
        refine sv (yAsg rfl) ?_
        refine sv (yAsg rfl) ?_
        refine nil ?_
        show Code.wp _ _ _ _ _
        refine seq ?_
        refine seq ?_
        refine region ?_
        refine sv (yAsg rfl) ?_
        refine nil ?_
        show Code.wp _ _ _ _ _
        refine block ?_
        refine loop (fun f w zz => ∃ (k : Nat), f 1 = .slice al log.length cl ∧ f 2 = .int .i64 i ∧ f 3 = .int .i64 tk ∧ f 4 = .pointer (some ⟨b4, 0, none⟩) ∧ f 12 = .int .i64 (knS t i tk (log.take k)).1 ∧ f 13 = .int .i64 (knS t i tk (log.take k)).2 ∧ f 14 = .int .i64 (k : Int) ∧ StX [] w0 w [blk b4 [.int .i64 t.polders, .slice a1 t.chans.length cap1, .slice a2 t.towns.length cap2, .slice a3 t.floods.length cap3] 26] ∧ (k ≤ log.length) ∧ zz = log.length - k) _ ⟨_, rfl, 0, h1, h2, h3, h4, rfl, rfl, rfl, hS, (Nat.zero_le _), rfl⟩ ?_
        clear hS
        rintro f w _ ⟨k, h1, h2, h3, h4, h12, h13, h14, hS, hk, rfl⟩
        refine seq ?_
        refine seq ?_
        refine region ?_
        refine sv (yMove h14) ?_
        refine sv (yMove h1) ?_
        refine sv (yLen rfl Tryz.underlying62) ?_
        refine sv (yLss rfl rfl) ?_
        refine nil ?_
        show Code.wp _ _ _ _ _
        refine cond rfl (fun c37 => ?_) (fun c37 => ?_)
        ·
          simp only [Bool.and_eq_true, Bool.or_eq_true, Bool.and_eq_false_iff, Bool.or_eq_false_iff, decide_eq_true_eq, decide_eq_false_iff_not, Bool.not_eq_true, Bool.not_eq_false, Bool.not_not, Bool.not_eq_eq_eq_not, Bool.not_true, Bool.not_false, Bool.false_eq_true, Bool.true_eq_false, ne_eq, Decidable.not_not, not_false_eq_true, not_true_eq_false] at c37
          obtain ⟨x, hx, hd⟩ := drop_of (l := log) (k := k) (by omega)
          obtain ⟨bx, ox, csx, hax, hlx, hcsx, hRx, -⟩ := sl_at hlg hx
          obtain ⟨rfl, -⟩ := hRx
          have hmx := hmo x (List.mem_of_getElem? hx)
          have hcb := hmx.chan
          have hsx := hmx.sent
          obtain ⟨bc, oc, csc, hac, hlc, hcsc, hRc, -⟩ := sl_at hsh (chn_i (t := t) hcb)
          obtain ⟨rfl, -⟩ := hRc
          have hco := chan_ok hok hcb
          refine skip ?_
          show Code.wp _ _ _ _ _
          refine seq ?_
          refine block ?_
          refine seq ?_
          refine region ?_
          refine sv (yMove h1) ?_
          refine sv (yMove h14) ?_
          refine sv (yIxa rfl hax rfl Tryz.runUnderlying62 Tryz.sizeOf70 (by omega) (by omega)) ?_
          refine sv (yLdA rfl Tryz.isAgg70 Tryz.sizeOf70 (hcsx.ext hS.ext) rfl) ?_
          refine salloc hS Tryz.zeroValue70 rfl ?_; clear hS; intro b15 w hS
          refine sst hS rfl rfl Tryz.sizeOf70 rfl rfl rfl rfl ?_; clear hS; intro w hS
          refine nil ?_
          show Code.wp _ _ _ _ _
          refine seq ?_
          refine region_draw mixed (by kernel_rfl) hS ?_
          refine qv (fun w hS => (fa70_1 rfl)) ?_
          refine qv (fun w hS => (yLdB rfl Tryz.isAgg3 (hS.at _) rfl)) ?_
          refine qv (fun w hS => (yMove h2)) ?_
          refine qv (fun w hS => (yEql rfl rfl)) ?_
          refine qv (fun w hS => (yMove rfl)) ?_
          refine qg rfl rfl rfl (fun g w hS => (fa70_4 rfl)) (fun v49 g49 => ?_)
          refine qg rfl rfl rfl (fun g w hS => (yLdB (g49.1 g) Tryz.isAgg3 (hS.at _) rfl)) (fun v50 g50 => ?_)
          refine qg rfl rfl rfl (fun g w hS => (fa26_1 h4)) (fun v51 g51 => ?_)
          refine qg rfl rfl rfl (fun g w hS => (yLdB (g51.1 g) Tryz.isAgg22 (hS.at _) rfl)) (fun v52 g52 => ?_)
          refine qg rfl rfl rfl (fun g w hS => (fa70_3 rfl)) (fun v53 g53 => ?_)
          refine qg rfl rfl rfl (fun g w hS => (yLdB (g53.1 g) Tryz.isAgg3 (hS.at _) rfl)) (fun v54 g54 => ?_)
          refine qg rfl rfl rfl (fun g w hS => (yIxa (g52.1 g) hac (g54.1 g) Tryz.runUnderlying22 Tryz.sizeOf41 (by omega) (by omega))) (fun v55 g55 => ?_)
          refine qg rfl rfl rfl (fun g w hS => (fa41_1 (g55.1 g))) (fun v56 g56 => ?_)
          refine qg rfl rfl rfl (fun g w hS => (yLd (g56.1 g) Tryz.isAgg3 ((hcsc.ext hS.ext).at (j := 1) rfl))) (fun v57 g57 => ?_)
          refine qg rfl rfl rfl (fun g w hS => (yAdd (g50.1 g) (g57.1 g) ⟨by omega, by omega⟩)) (fun v58 g58 => ?_)
          refine qg rfl rfl rfl (fun g w hS => (yMove h3)) (fun v59 g59 => ?_)
          refine qg rfl rfl rfl (fun g w hS => (yLeq (g58.1 g) (g59.1 g))) (fun v60 g60 => ?_)
          refine qv (fun w hS => (yAnd rfl (fun hB => (g60.1 hB)) rfl)) ?_
          clear hS; refine qnil (fun w hS => ?_)
          show Code.wp _ _ _ _ _
          refine cond rfl (fun c61 => ?_) (fun c61 => ?_)
          ·
            refine region_draw mixed (by kernel_rfl) hS ?_
            refine qv (fun w hS => (fa70_2 rfl)) ?_
            refine qv (fun w hS => (yLdB rfl Tryz.isAgg3 (hS.at _) rfl)) ?_
            refine qv (fun w hS => (fa70_0 rfl)) ?_
            refine qv (fun w hS => (yLdB rfl Tryz.isAgg3 (hS.at _) rfl)) ?_
            refine qv (fun w hS => (yAsg rfl)) ?_
            refine qv (fun w hS => (yAsg rfl)) ?_
            clear hS; refine qnil (fun w hS => ?_)
            show Code.wp _ _ _ _ _
            refine region ?_
            refine sv (yMove h14) ?_
            refine sv (yAdd rfl rfl ⟨by omega, by omega⟩) ?_
            refine sv (yAsg rfl) ?_
            refine nil ?_
            have hst : knS t i tk (log.take (k + 1)) = (x.stage, x.number) := by rw [take_snoc hx, knS_snoc, if_pos (show hitM t i tk x = true from c61)]
            exact ⟨_, _, rfl, ⟨k + 1, h1, h2, h3, h4, (rfl.trans (congrArg (fun q : Int × Int => Value.int .i64 q.1) hst).symm), (rfl.trans (congrArg (fun q : Int × Int => Value.int .i64 q.2) hst).symm), rfl, (hS.sub (.cons _ (List.Sublist.refl _))), (by omega), rfl⟩, by omega⟩
          ·
            refine skip ?_
            show Code.wp _ _ _ _ _
            refine region ?_
            refine sv (yMove h14) ?_
            refine sv (yAdd rfl rfl ⟨by omega, by omega⟩) ?_
            refine sv (yAsg rfl) ?_
            refine nil ?_
            have hst : knS t i tk (log.take (k + 1)) = knS t i tk (log.take k) := by rw [take_snoc hx, knS_snoc, if_neg (by rw [show hitM t i tk x = false from c61]; decide)]
            exact ⟨_, _, rfl, ⟨k + 1, h1, h2, h3, h4, (h12.trans (congrArg (fun q : Int × Int => Value.int .i64 q.1) hst).symm), (h13.trans (congrArg (fun q : Int × Int => Value.int .i64 q.2) hst).symm), rfl, (hS.sub (.cons _ (List.Sublist.refl _))), (by omega), rfl⟩, by omega⟩
        ·
          simp only [Bool.and_eq_true, Bool.or_eq_true, Bool.and_eq_false_iff, Bool.or_eq_false_iff, decide_eq_true_eq, decide_eq_false_iff_not, Bool.not_eq_true, Bool.not_eq_false, Bool.not_not, Bool.not_eq_eq_eq_not, Bool.not_true, Bool.not_false, Bool.false_eq_true, Bool.true_eq_false, ne_eq, Decidable.not_not, not_false_eq_true, not_true_eq_false] at c37
          obtain rfl : k = log.length := by omega
          rw [List.take_length] at h12 h13
          refine exit ?_
          show Code.wp _ _ _ _ _
          refine seq ?_
          refine region ?_
          refine sv (yMove h12) ?_
          refine sv (yMove h13) ?_
          refine sv (yAsg rfl) ?_
          refine sv (yAsg rfl) ?_
          refine sv (yAsg rfl) ?_
          refine nil ?_
          show Code.wp _ _ _ _ _
          refine wp_ret ?_
          exact retV (res3 rfl (fstI hf) (thd1I hf) (thd2I hf)) hS.ext
end Go.Proofs.YtmoilbakmlekbaaGreatDoor

/- part Aw33 -/
namespace Go.Proofs.YtmoilbakmlekbaaGreatDoor
open Go Bx
/-- barrage/barrageref11.earliest -/
theorem c_rearl {t : Task} {hv nv fv : Value} {i : Int} {w0 : World} (h : RTask w0 [.int .i64 t.polders, hv, nv, fv] t) (hok : TaskOk t) (hi : 0 ≤ i ∧ i < t.towns.length) : CV Tryz.prog 80 #[.agg [.int .i64 t.polders, hv, nv, fv].toArray, .int .i64 i] w0 (.int .i64 (arr t i).1.lo) := by
  obtain ⟨hv', nv', fv', he0, hpol, hsh, hsn, hsf⟩ := id h
  obtain ⟨rfl, rfl, rfl⟩ : hv' = hv ∧ nv' = nv ∧ fv' = fv := by simpa [eq_comm] using he0
  obtain ⟨a1, cap1, rfl, hcap1, hmx1, hel1⟩ := id hsh
  obtain ⟨a2, cap2, rfl, hcap2, hmx2, hel2⟩ := id hsn
  obtain ⟨a3, cap3, rfl, hcap3, hmx3, hel3⟩ := id hsf
  refine enter Tryz.func80 rfl Tryz.ntmps80 rfl ?_
  have hS := St.start w0
  refine seq ?_
  refine region ?_
  refine sbox hS rfl rfl ?_; clear hS; intro b2 w hS
  refine sv (yAsg rfl) ?_
  refine nil ?_
  show Code.wp _ _ _ _ _
  refine seq ?_
  refine region ?_
  refine sv (yLdBA rfl Tryz.isAgg26 Tryz.sizeOf26 (hS.at _) rfl rfl) ?_
  refine sv (yMove rfl) ?_
  refine scall Tryz.call71 (.cons rfl (.cons rfl .nil)) (c_rarr (h.ext hS.ext) hok hi) ?_
  rintro _ w ⟨rfl, hE⟩; replace hS := hS.step hE; clear hE
  refine sv (yMove rfl) ?_
  refine sv (yExt rfl rfl) ?_
  refine sv (yExt rfl rfl) ?_
  refine salloc hS Tryz.zeroValue44 rfl ?_; clear hS; intro b5 w hS
  refine sst hS rfl rfl Tryz.sizeOf44 rfl rfl rfl rfl ?_; clear hS; intro w hS
  refine sv (yAsg rfl) ?_
  refine nil ?_
  show Code.wp _ _ _ _ _
  refine seq ?_
  refine region ?_
  refine sv (fa44_0 rfl) ?_
  refine sv (yLdB rfl Tryz.isAgg3 (hS.at _) rfl) ?_
  refine sv (yAsg rfl) ?_
  refine nil ?_
  show Code.wp _ _ _ _ _
  refine wp_ret ?_
  exact retV (res1 rfl rfl) hS.ext
set_option maxHeartbeats 2000000 in
/-- barrage/barrageref11.byEarliest -/
theorem c_rbyE {t : Task} {hv nv fv : Value} {l : List Int} {v : Value} {w0 : World} (h : RTask w0 [.int .i64 t.polders, hv, nv, fv] t) (hok : TaskOk t) (hl0 : Sl w0 1 RInt v l) (hm : ∀ i ∈ l, 0 ≤ i ∧ i < t.towns.length) (hlen : l.length ≤ 1000) : CE Tryz.prog 78 #[.agg [.int .i64 t.polders, hv, nv, fv].toArray, v] w0 (fun u w' => St w0 w' [rowI u 3 1 l.length ((sortP (ltE (fun i => (arr t i).1.lo)) l).flatMap Bx.encI)]) := by
  obtain ⟨hv', nv', fv', he0, hpol, hsh, hsn, hsf⟩ := id h
  obtain ⟨rfl, rfl, rfl⟩ : hv' = hv ∧ nv' = nv ∧ fv' = fv := by simpa [eq_comm] using he0
  obtain ⟨a1, cap1, rfl, hcap1, hmx1, hel1⟩ := id hsh
  obtain ⟨a2, cap2, rfl, hcap2, hmx2, hel2⟩ := id hsn
  obtain ⟨a3, cap3, rfl, hcap3, hmx3, hel3⟩ := id hsf
  obtain ⟨av, cv, rfl, hvcap, hvmx, hvel⟩ := id hl0
  refine enter Tryz.func78 rfl Tryz.ntmps78 rfl ?_
  have hS := St.start w0
  refine seq ?_
  refine region ?_
  refine sbox hS rfl rfl ?_; clear hS; intro b2 w hS
  refine sv (yAsg rfl) ?_
  refine nil ?_
  show Code.wp _ _ _ _ _
  refine seq ?_
  refine region ?_
  refine sbslice0 hS Tryz.underlying34 Tryz.sizeOf3 ?_; clear hS; intro b10 w hS
  refine sv (yMove rfl) ?_
  refine sappS (bytes := 8) (size := 1) hS rfl rfl Tryz.underlying34 ti3 rfl rfl rfl rfl (by decide) Tryz.sizeOf3 (fun hh => by obtain ⟨bd, od, e1, e2⟩ := ints_news hl0 hh; exact ⟨bd, od, e1, e2.ext hS.ext⟩) (by rw [flat_len encI_len]) (ints_one l) (by omega) (by omega) ?_; clear hS; intro v12 w hS; rw [Nat.zero_add, List.nil_append] at hS
  obtain ⟨ao, co, rfl⟩ := row_shape (hS.row v12)
  refine sv (yAsg rfl) ?_
  refine nil ?_
  show Code.wp _ _ _ _ _
  refine seq ?_
  refine seq ?_
  refine region ?_
  refine sv (yAsg rfl) ?_
  refine nil ?_
  show Code.wp _ _ _ _ _
  refine block ?_
  refine loop (fun f w zz => ∃ (i : Nat), f 2 = .pointer (some ⟨b2, 0, none⟩) ∧ f 5 = .slice ao l.length co ∧ f 6 = .int .i64 (i : Int) ∧ StX [] w0 w [rowI (.slice ao l.length co) 3 1 l.length (((pasR (ltE (fun i => (arr t i).1.lo)) (l.take i)).reverse ++ l.drop i).flatMap Bx.encI), blk b2 [.int .i64 t.polders, .slice a1 t.chans.length cap1, .slice a2 t.towns.length cap2, .slice a3 t.floods.length cap3] 26] ∧ (1 ≤ i ∧ i ≤ l.length + 1) ∧ zz = l.length + 1 - i) _ ⟨_, rfl, 1, rfl, rfl, rfl, (by rw [pas_start]; exact hS), (⟨Nat.le_refl _, by omega⟩), rfl⟩ ?_
  clear hS
  rintro f w _ ⟨i, h2, h5, h6, hS, hi, rfl⟩
  refine seq ?_
  refine seq ?_
  refine region ?_
  refine sv (yMove h6) ?_
  refine sv (yMove h5) ?_
  refine sv (yLen rfl Tryz.underlying34) ?_
  refine sv (yLss rfl rfl) ?_
  refine nil ?_
  show Code.wp _ _ _ _ _
  refine cond rfl (fun c16 => ?_) (fun c16 => ?_)
  ·
    simp only [Bool.and_eq_true, Bool.or_eq_true, Bool.and_eq_false_iff, Bool.or_eq_false_iff, decide_eq_true_eq, decide_eq_false_iff_not, Bool.not_eq_true, Bool.not_eq_false, Bool.not_not, Bool.not_eq_eq_eq_not, Bool.not_true, Bool.not_false, Bool.false_eq_true, Bool.true_eq_false, ne_eq, Decidable.not_not, not_false_eq_true, not_true_eq_false] at c16
    obtain ⟨x, hx, hd⟩ := drop_of (l := l) (k := i) (by omega)
    obtain ⟨gb, rfl, -⟩ := row_get (hS.row (.slice ao l.length co)) (by omega)
    have hxm := List.mem_of_getElem? hx
    refine skip ?_
    show Code.wp _ _ _ _ _
    refine seq ?_
    refine block ?_
    refine seq ?_
    refine region ?_
    refine sv (yMove h6) ?_
    refine sv (yAsg rfl) ?_
    refine nil ?_
    show Code.wp _ _ _ _ _
    refine block ?_
    have hsl : (pasR (ltE (fun i => (arr t i).1.lo)) (l.take i)).length = i := by rw [(pasR_perm _ _).length_eq]; simp; omega
    refine loop (fun f w zz => ∃ (b : Int) (ks js : List Int), f 2 = .pointer (some ⟨b2, 0, none⟩) ∧ f 5 = .slice (some ⟨gb, 0, none⟩) l.length co ∧ f 6 = .int .i64 (i : Int) ∧ f 7 = .int .i64 (ks.length : Int) ∧ StX [] w0 w [rowI (.slice (some ⟨gb, 0, none⟩) l.length co) 3 1 l.length ((ks ++ [b] ++ js ++ l.drop (i + 1)).flatMap Bx.encI), blk b2 [.int .i64 t.polders, .slice a1 t.chans.length cap1, .slice a2 t.towns.length cap2, .slice a3 t.floods.length cap3] 26] ∧ (ks.length + js.length = i) ∧ (passV (ltE (fun i => (arr t i).1.lo)) x (pasR (ltE (fun i => (arr t i).1.lo)) (l.take i)) = js.reverse ++ passV (ltE (fun i => (arr t i).1.lo)) b ks.reverse) ∧ (b ∈ l) ∧ (∀ z ∈ ks, z ∈ l) ∧ zz = ks.length) _ ⟨_, rfl, x, (pasR (ltE (fun i => (arr t i).1.lo)) (l.take i)).reverse, [], h2, h5, h6, (by rw [List.length_reverse, hsl]; exact rfl), (by rw [List.append_nil, List.append_assoc, List.singleton_append, ← hd]; exact hS), (by simp [hsl]), (by rw [List.reverse_reverse]; rfl), (hxm), (fun z hz => List.mem_of_mem_take ((pasR_perm _ _).mem_iff.1 (List.mem_reverse.1 hz))), rfl⟩ ?_
    clear hS
    rintro f w _ ⟨b, ks, js, h2, h5, h6, h7, hS, hl, hI, hbm, hks, rfl⟩
    refine seq ?_
    refine seq ?_
    refine region ?_
    refine sv (yMove h7) ?_
    refine sv (yGtr rfl rfl) ?_
    refine nil ?_
    show Code.wp _ _ _ _ _
    refine cond rfl (fun c21 => ?_) (fun c21 => ?_)
    ·
      simp only [Bool.and_eq_true, Bool.or_eq_true, Bool.and_eq_false_iff, Bool.or_eq_false_iff, decide_eq_true_eq, decide_eq_false_iff_not, Bool.not_eq_true, Bool.not_eq_false, Bool.not_not, Bool.not_eq_eq_eq_not, Bool.not_true, Bool.not_false, Bool.false_eq_true, Bool.true_eq_false, ne_eq, Decidable.not_not, not_false_eq_true, not_true_eq_false] at c21
      obtain ⟨k2, a, rfl⟩ := snoc_ex (l := ks) (by omega)
      have ham := hks a (by simp)
      have hbi := hm b hbm
      have hai := hm a ham
      have hkl : k2.length + 1 + js.length = i := by simpa using hl
      have hga := in_a k2 js (l.drop (i + 1)) a b
      have hgb := in_b k2 js (l.drop (i + 1)) a b
      refine skip ?_
      show Code.wp _ _ _ _ _
      refine seq ?_
      refine block ?_
      refine seq ?_
      refine region_draw mixed (by kernel_rfl) hS ?_
      replace hS : StX [] w0 w [rowI (.slice (some ⟨gb, 0, none⟩) l.length co) 3 1 l.length ((k2 ++ [a] ++ [b] ++ js ++ l.drop (i + 1)).flatMap Bx.encI), blk b2 [.int .i64 t.polders, .slice a1 t.chans.length cap1, .slice a2 t.towns.length cap2, .slice a3 t.floods.length cap3] 26] := hS
      refine qv (fun w hS => (yMove h5)) ?_
      refine qv (fun w hS => (yMove h7)) ?_
      refine qv (fun w hS => (ySub rfl rfl ⟨by omega, by omega⟩)) ?_
      refine qv (fun w hS => (yIx0 (m := k2.length) rfl (rfl.trans (congrArg (Value.int .i64) (by simp))) Tryz.runUnderlying34 Tryz.sizeOf3 (by omega))) ?_
      refine qv (fun w hS => (yLd rfl Tryz.isAgg3 ((flat_cells0 (enc := Bx.encI) encI_len (row_at (hS.row (.slice (some ⟨gb, 0, none⟩) l.length co)) rfl (by omega)) hga).one))) ?_
      refine qv (fun w hS => (yMove h5)) ?_
      refine qv (fun w hS => (yMove h7)) ?_
      refine qv (fun w hS => (yIx0 (m := k2.length + 1) rfl (rfl.trans (congrArg (Value.int .i64) (by simp))) Tryz.runUnderlying34 Tryz.sizeOf3 (by omega))) ?_
      refine qv (fun w hS => (yLd rfl Tryz.isAgg3 ((flat_cells0 (enc := Bx.encI) encI_len (row_at (hS.row (.slice (some ⟨gb, 0, none⟩) l.length co)) rfl (by omega)) hgb).one))) ?_
      refine qv (fun w hS => (yAsg rfl)) ?_
      refine qv (fun w hS => (yAsg rfl)) ?_
      clear hS; refine qnil (fun w hS => ?_)
      show Code.wp _ _ _ _ _
      refine seq ?_
      refine region_draw mixed (by kernel_rfl) hS ?_
      refine qv (fun w hS => (yLdBA h2 Tryz.isAgg26 Tryz.sizeOf26 (hS.at _) rfl rfl)) ?_
      refine qv (fun w hS => (yMove rfl)) ?_
      refine qcall Tryz.call80 (.cons rfl (.cons rfl .nil)) (fun w hS => (c_rearl (h.ext hS.ext) hok hbi)) ?_
      refine qv (fun w hS => (yLdBA h2 Tryz.isAgg26 Tryz.sizeOf26 (hS.at _) rfl rfl)) ?_
      refine qv (fun w hS => (yMove rfl)) ?_
      refine qcall Tryz.call80 (.cons rfl (.cons rfl .nil)) (fun w hS => (c_rearl (h.ext hS.ext) hok hai)) ?_
      refine qv (fun w hS => (yLss rfl rfl)) ?_
      refine qv (fun w hS => (yMove rfl)) ?_
      refine qg rfl rfl rfl (fun g w hS => (yLdBA h2 Tryz.isAgg26 Tryz.sizeOf26 (hS.at _) rfl rfl)) (fun v41 g41 => ?_)
      refine qg rfl rfl rfl (fun g w hS => (yMove rfl)) (fun v42 g42 => ?_)
      refine qgc rfl rfl rfl Tryz.call80 (fun g => (.cons (g41.1 g) (.cons (g42.1 g) .nil))) (fun g w hS => (c_rearl (h.ext hS.ext) hok hbi)) (fun v43 g43 => ?_)
      refine qg rfl rfl rfl (fun g w hS => (yLdBA h2 Tryz.isAgg26 Tryz.sizeOf26 (hS.at _) rfl rfl)) (fun v44 g44 => ?_)
      refine qg rfl rfl rfl (fun g w hS => (yMove rfl)) (fun v45 g45 => ?_)
      refine qgc rfl rfl rfl Tryz.call80 (fun g => (.cons (g44.1 g) (.cons (g45.1 g) .nil))) (fun g w hS => (c_rearl (h.ext hS.ext) hok hai)) (fun v46 g46 => ?_)
      refine qg rfl rfl rfl (fun g w hS => (yEql (g43.1 g) (g46.1 g))) (fun v47 g47 => ?_)
      refine qg rfl rfl rfl (fun g w hS => (yMove (g47.1 g))) (fun v48 g48 => ?_)
      refine qgg rfl rfl g48 (fun g w hS => (yMove rfl)) (fun v49 g49 => ?_)
      refine qgg rfl rfl g48 (fun g w hS => (yMove rfl)) (fun v50 g50 => ?_)
      refine qgg rfl rfl g48 (fun g w hS => (yLss (g49.1 g) (g50.1 g))) (fun v51 g51 => ?_)
      refine qg rfl rfl rfl (fun g w hS => (yAnd (g48.1 g) (fun hB => (g51.1 ⟨g, hB⟩)) rfl)) (fun v52 g52 => ?_)
      refine qv (fun w hS => (yOr rfl rfl (fun hB => (g52.1 hB)))) ?_
      clear hS; refine qnil (fun w hS => ?_)
      show Code.wp _ _ _ _ _
      refine cond rfl (fun c53 => ?_) (fun c53 => ?_)
      ·
        refine region ?_
        refine sv (yMove h5) ?_
        refine sv (yMove h7) ?_
        refine sv (ySub rfl rfl ⟨by omega, by omega⟩) ?_
        refine sv (yMove h5) ?_
        refine sv (yMove h7) ?_
        refine sv (yMove rfl) ?_
        refine sv (yMove rfl) ?_
        refine sv (yIx0 (m := k2.length) rfl (rfl.trans (congrArg (Value.int .i64) (by simp))) Tryz.runUnderlying34 Tryz.sizeOf3 (by omega)) ?_
        refine srst (m := l.length) (cap := co) (sz := 1) hS rfl rfl Tryz.sizeOf3 rfl rfl (by omega) rfl ?_; clear hS; intro w hS
        refine sv (yIx0 (m := k2.length + 1) rfl (rfl.trans (congrArg (Value.int .i64) (by simp))) Tryz.runUnderlying34 Tryz.sizeOf3 (by omega)) ?_
        refine srst (m := l.length) (cap := co) (sz := 1) hS rfl rfl Tryz.sizeOf3 rfl rfl (by omega) rfl ?_; clear hS; intro w hS
        replace hS : StX [] w0 w [rowI (.slice (some ⟨gb, 0, none⟩) l.length co) 3 1 l.length ((k2 ++ [b] ++ (a :: js) ++ l.drop (i + 1)).flatMap Bx.encI), blk b2 [.int .i64 t.polders, .slice a1 t.chans.length cap1, .slice a2 t.towns.length cap2, .slice a3 t.floods.length cap3] 26] := by
          have e1 := splice_enc (enc := Bx.encI) encI_len (k2 ++ [a] ++ [b] ++ js ++ l.drop (i + 1)) k2.length b (by simp)
          have e2 := splice_enc (enc := Bx.encI) encI_len ((k2 ++ [a] ++ [b] ++ js ++ l.drop (i + 1)).set k2.length b) (k2.length + 1) a (by simp)
          rw [← e1, swap_set2] at e2
          rw [← e2]; exact hS
        refine nil ?_
        show Code.wp _ _ _ _ _
        refine region ?_
        refine sv (yMove h7) ?_
        refine sv (ySub rfl rfl ⟨by omega, by omega⟩) ?_
        refine sv (yAsg rfl) ?_
        refine nil ?_
        exact ⟨_, _, rfl, ⟨b, k2, a :: js, h2, h5, h6, (rfl.trans (congrArg (Value.int .i64) (by simp))), hS, (by simp at hl ⊢; omega), (by rw [hI, pass_yes c53, List.reverse_cons, List.append_assoc]; rfl), (hbm), (fun z hz => hks z (by simp [hz])), rfl⟩, by simp⟩
      ·
        refine skip ?_
        show Code.wp _ _ _ _ _
        refine region ?_
        refine sv (yMove h7) ?_
        refine sv (ySub rfl rfl ⟨by omega, by omega⟩) ?_
        refine sv (yAsg rfl) ?_
        refine nil ?_
        exact ⟨_, _, rfl, ⟨a, k2, b :: js, h2, h5, h6, (rfl.trans (congrArg (Value.int .i64) (by simp))), (by rw [show k2 ++ [a] ++ (b :: js) ++ l.drop (i + 1) = k2 ++ [a] ++ [b] ++ js ++ l.drop (i + 1) by simp]; exact hS), (by simp at hl ⊢; omega), (by rw [hI, pass_not c53, List.reverse_cons, List.append_assoc]; rfl), (ham), (fun z hz => hks z (by simp [hz])), rfl⟩, by simp⟩
    ·
      simp only [Bool.and_eq_true, Bool.or_eq_true, Bool.and_eq_false_iff, Bool.or_eq_false_iff, decide_eq_true_eq, decide_eq_false_iff_not, Bool.not_eq_true, Bool.not_eq_false, Bool.not_not, Bool.not_eq_eq_eq_not, Bool.not_true, Bool.not_false, Bool.false_eq_true, Bool.true_eq_false, ne_eq, Decidable.not_not, not_false_eq_true, not_true_eq_false] at c21
      obtain rfl : ks = [] := List.eq_nil_of_length_eq_zero (by omega)
      have hfin : (pasR (ltE (fun i => (arr t i).1.lo)) (l.take (i + 1))).reverse ++ l.drop (i + 1) = [] ++ [b] ++ js ++ l.drop (i + 1) := by rw [pasR_step _ hx, hI]; simp [passV]
      refine exit ?_
      show Code.wp _ _ _ _ _
      refine region ?_
      refine sv (yMove h6) ?_
      refine sv (yAdd rfl rfl ⟨by omega, by omega⟩) ?_
      refine sv (yAsg rfl) ?_
      refine nil ?_
      exact ⟨_, _, rfl, ⟨i + 1, h2, h5, rfl, (by rw [hfin]; exact hS), (⟨by omega, by omega⟩), rfl⟩, by omega⟩
  ·
    simp only [Bool.and_eq_true, Bool.or_eq_true, Bool.and_eq_false_iff, Bool.or_eq_false_iff, decide_eq_true_eq, decide_eq_false_iff_not, Bool.not_eq_true, Bool.not_eq_false, Bool.not_not, Bool.not_eq_eq_eq_not, Bool.not_true, Bool.not_false, Bool.false_eq_true, Bool.true_eq_false, ne_eq, Decidable.not_not, not_false_eq_true, not_true_eq_false] at c16
    have hfin : (pasR (ltE (fun i => (arr t i).1.lo)) (l.take i)).reverse ++ l.drop i = sortP (ltE (fun i => (arr t i).1.lo)) l := pas_end (by omega)
    refine exit ?_
    show Code.wp _ _ _ _ _
    refine seq ?_
    refine region ?_
    refine sv (yMove h5) ?_
    refine sv (yAsg rfl) ?_
    refine nil ?_
    show Code.wp _ _ _ _ _
    refine wp_ret ?_
    refine retQ (res1 rfl rfl) ?_
    rw [hfin] at hS
    exact hS.sub (.cons_cons _ (List.nil_sublist _))
end Go.Proofs.YtmoilbakmlekbaaGreatDoor

/- part Aw34 -/
namespace Go.Proofs.YtmoilbakmlekbaaGreatDoor
open Go Bx
set_option maxHeartbeats 4000000 in
/-- barrage/barrageref11.Next -/
theorem c_rNext {t : Task} {hv nv fv : Value} {now : Int} {log : List Msg} {lv : Value} {w0 : World} (h : RTask w0 [.int .i64 t.polders, hv, nv, fv] t) (hlg : Sl w0 5 RMsg lv log) : CE Tryz.prog 34 #[.agg [.int .i64 t.polders, hv, nv, fv].toArray, lv, .int .i64 now] w0 (fun u w' => ∃ v, u = .tuple #[v, .int .i64 (nextR t log now).2] ∧ Sl w' 5 RMsg v (nextR t log now).1 ∧ Ext w0 w') := by
  obtain ⟨hv', nv', fv', he0, hpol, hsh, hsn, hsf⟩ := id h
  obtain ⟨rfl, rfl, rfl⟩ : hv' = hv ∧ nv' = nv ∧ fv' = fv := by simpa [eq_comm] using he0
  obtain ⟨a1, cap1, rfl, hcap1, hmx1, hel1⟩ := id hsh
  obtain ⟨a2, cap2, rfl, hcap2, hmx2, hel2⟩ := id hsn
  obtain ⟨a3, cap3, rfl, hcap3, hmx3, hel3⟩ := id hsf
  obtain ⟨al, cl, rfl, hlcap, hlmx, hlel⟩ := id hlg
  obtain ⟨z, bz, oz, csz, haz⟩ := last_at hlg
  have hla : lateB log now = (decide ((0 : Int) < log.length) && decide (now < z.sent)) := late_if fun h => (haz h).2.2.2
  refine enter Tryz.func34 rfl Tryz.ntmps34 rfl ?_
  have hS := St.start w0
  refine seq ?_
  refine region ?_
  refine sbox hS rfl rfl ?_; clear hS; intro b3 w hS
  refine sv (yAsg rfl) ?_
  refine sv (yAsg rfl) ?_
  refine nil ?_
  show Code.wp _ _ _ _ _
  refine seq ?_
  refine region ?_
  refine sv (yLdBA rfl Tryz.isAgg26 Tryz.sizeOf26 (hS.at _) rfl rfl) ?_
  refine scall Tryz.call77 (.cons rfl .nil) (c_rgood (h.ext hS.ext)) ?_
  rintro _ w ⟨rfl, hE⟩; replace hS := hS.step hE; clear hE
  refine sv (yAsg rfl) ?_
  refine nil ?_
  show Code.wp _ _ _ _ _
  refine seqJ (n := 124) (fun f w => ∃ (e1 : Int), f 1 = .slice al log.length cl ∧ f 2 = .int .i64 now ∧ f 3 = .pointer (some ⟨b3, 0, none⟩) ∧ f 8 = .int .i64 e1 ∧ StX [] w0 w [blk b3 [.int .i64 t.polders, .slice a1 t.chans.length cap1, .slice a2 t.towns.length cap2, .slice a3 t.floods.length cap3] 26] ∧ (e1 = if (checkA t).2.2 = 0 then wrongF t log else (checkA t).2.2) ∧ True) ?_ ?_
  ·
    refine seq ?_
    refine region ?_
    refine sv (yMove rfl) ?_
    refine sv (yEql rfl rfl) ?_
    refine nil ?_
    show Code.wp _ _ _ _ _
    refine cond rfl (fun c20 => ?_) (fun c20 => ?_)
    ·
      simp only [Bool.and_eq_true, Bool.or_eq_true, Bool.and_eq_false_iff, Bool.or_eq_false_iff, decide_eq_true_eq, decide_eq_false_iff_not, Bool.not_eq_true, Bool.not_eq_false, Bool.not_not, Bool.not_eq_eq_eq_not, Bool.not_true, Bool.not_false, Bool.false_eq_true, Bool.true_eq_false, ne_eq, Decidable.not_not, not_false_eq_true, not_true_eq_false] at c20
      have hok := task_ok c20
      refine region ?_
      refine sv (yLdBA rfl Tryz.isAgg26 Tryz.sizeOf26 (hS.at _) rfl rfl) ?_
      refine sv (yMove rfl) ?_
      refine scall Tryz.call83 (.cons rfl (.cons rfl .nil)) (c_rlogged (h.ext hS.ext) (hlg.ext RMsg.stays hS.ext) hok) ?_
      rintro _ w ⟨rfl, hE⟩; replace hS := hS.step hE; clear hE
      refine sv (yAsg rfl) ?_
      refine nil ?_
      exact ⟨_, rfl, _, rfl, rfl, rfl, rfl, hS, ((if_pos c20).symm), trivial⟩
    ·
      simp only [Bool.and_eq_true, Bool.or_eq_true, Bool.and_eq_false_iff, Bool.or_eq_false_iff, decide_eq_true_eq, decide_eq_false_iff_not, Bool.not_eq_true, Bool.not_eq_false, Bool.not_not, Bool.not_eq_eq_eq_not, Bool.not_true, Bool.not_false, Bool.false_eq_true, Bool.true_eq_false, ne_eq, Decidable.not_not, not_false_eq_true, not_true_eq_false] at c20
      refine skip ?_
      exact ⟨_, rfl, _, rfl, rfl, rfl, rfl, hS, ((if_neg c20).symm), trivial⟩
  ·
    clear hS; rintro f w ⟨e1, h1, h2, h3, h8, hS, he1, -⟩
    refine seqJ (n := 124) (fun f w => f 1 = .slice al log.length cl ∧ f 2 = .int .i64 now ∧ f 3 = .pointer (some ⟨b3, 0, none⟩) ∧ f 8 = .int .i64 (nextE t log now) ∧ StX [] w0 w [blk b3 [.int .i64 t.polders, .slice a1 t.chans.length cap1, .slice a2 t.towns.length cap2, .slice a3 t.floods.length cap3] 26] ∧ True) ?_ ?_
    ·
      refine seq ?_
      refine region ?_
      refine sv (yMove h8) ?_
      refine sv (yEql rfl rfl) ?_
      refine sv (yMove rfl) ?_
      refine sg rfl rfl rfl (fun g => (yMove h2)) (fun v27 g27 => ?_)
      refine sgc hS rfl rfl rfl Tryz.call73 (fun g => (.cons (g27.1 g) .nil)) (fun g => c_rtick) ?_; clear hS; intro v28 w hS g28
      refine sg rfl rfl rfl (fun g => (yNot (g28.1 g))) (fun v29 g29 => ?_)
      refine sg rfl rfl rfl (fun g => (yMove (g29.1 g))) (fun v30 g30 => ?_)
      refine sgg rfl rfl g30 (fun g => (yMove h1)) (fun v31 g31 => ?_)
      refine sgg rfl rfl g30 (fun g => (yLen (g31.1 g) Tryz.underlying62)) (fun v32 g32 => ?_)
      refine sgg rfl rfl g30 (fun g => (yGtr (g32.1 g) rfl)) (fun v33 g33 => ?_)
      refine sgg rfl rfl g30 (fun g => (yMove (g33.1 g))) (fun v34 g34 => ?_)
      refine sgg rfl rfl g34 (fun g => (yMove h1)) (fun v35 g35 => ?_)
      refine sgg rfl rfl g34 (fun g => (yMove h1)) (fun v36 g36 => ?_)
      refine sgg rfl rfl g34 (fun g => (yLen (g36.1 g) Tryz.underlying62)) (fun v37 g37 => ?_)
      refine sgg rfl rfl g34 (fun g => (ySub (g37.1 g) rfl ⟨by omega, by omega⟩)) (fun v38 g38 => ?_)
      refine sgg rfl rfl g34 (fun g => (yIxa (g35.1 g) (haz (of_decide_eq_true g.2)).1 (g38.1 g) Tryz.runUnderlying62 Tryz.sizeOf70 (by have := (of_decide_eq_true g.2); omega) (by have := (of_decide_eq_true g.2); omega))) (fun v39 g39 => ?_)
      refine sgg rfl rfl g34 (fun g => (fa70_4 (g39.1 g))) (fun v40 g40 => ?_)
      refine sgg rfl rfl g34 (fun g => (yLd (g40.1 g) Tryz.isAgg3 (((haz (of_decide_eq_true g.2)).2.1.ext hS.ext).at (j := 4) (haz (of_decide_eq_true g.2)).2.2.1))) (fun v41 g41 => ?_)
      refine sgg rfl rfl g34 (fun g => (yMove h2)) (fun v42 g42 => ?_)
      refine sgg rfl rfl g34 (fun g => (yGtr (g41.1 g) (g42.1 g))) (fun v43 g43 => ?_)
      refine sgg rfl rfl g30 (fun g => (yAnd (g34.1 g) (fun hB => (g43.1 ⟨g, hB⟩)) rfl)) (fun v44 g44 => ?_)
      refine sg rfl rfl rfl (fun g => (yOr (g30.1 g) rfl (fun hB => (g44.1 ⟨g, hB⟩)))) (fun v45 g45 => ?_)
      refine sv (yAnd rfl (fun hB => (g45.1 hB)) rfl) ?_
      refine nil ?_
      show Code.wp _ _ _ _ _
      refine cond rfl (fun c46 => ?_) (fun c46 => ?_)
      ·
        refine region ?_
        refine sv (yAsg rfl) ?_
        refine nil ?_
        exact ⟨_, rfl, h1, h2, h3, (rfl.trans (congrArg (Value.int .i64) ((nxJ_y hla he1 c46).symm))), hS, trivial⟩
      ·
        refine skip ?_
        exact ⟨_, rfl, h1, h2, h3, (h8.trans (congrArg (Value.int .i64) ((nxJ_n hla he1 c46).symm))), hS, trivial⟩
    ·
      clear hS; rintro f w ⟨h1, h2, h3, h8, hS, -⟩
      refine seq ?_
      refine seq ?_
      refine region ?_
      refine sv (yMove h8) ?_
      refine sv (yNeq rfl rfl) ?_
      refine nil ?_
      show Code.wp _ _ _ _ _
      refine cond rfl (fun c48 => ?_) (fun c48 => ?_)
      ·
        simp only [Bool.and_eq_true, Bool.or_eq_true, Bool.and_eq_false_iff, Bool.or_eq_false_iff, decide_eq_true_eq, decide_eq_false_iff_not, Bool.not_eq_true, Bool.not_eq_false, Bool.not_not, Bool.not_eq_eq_eq_not, Bool.not_true, Bool.not_false, Bool.false_eq_true, Bool.true_eq_false, ne_eq, Decidable.not_not, not_false_eq_true, not_true_eq_false] at c48
        refine seq ?_
        refine region ?_
        refine sv (yMove h8) ?_
        refine sv (yAsg rfl) ?_
        refine sv (yAsg rfl) ?_
        refine nil ?_
        show Code.wp _ _ _ _ _
        refine wp_ret (thenR ?_)
        refine retQ (res2 rfl rfl rfl) ?_
        have hf : nextR t log now = ([], nextE t log now) := if_pos c48
        rw [hf]
        exact ⟨_, rfl, Sl.nil, hS.ext⟩
      ·
        simp only [Bool.and_eq_true, Bool.or_eq_true, Bool.and_eq_false_iff, Bool.or_eq_false_iff, decide_eq_true_eq, decide_eq_false_iff_not, Bool.not_eq_true, Bool.not_eq_false, Bool.not_not, Bool.not_eq_eq_eq_not, Bool.not_true, Bool.not_false, Bool.false_eq_true, Bool.true_eq_false, ne_eq, Decidable.not_not, not_false_eq_true, not_true_eq_false] at c48
        obtain ⟨hck, hwr, hnw, -⟩ := nextE_ok c48
        have hok := task_ok hck
        have hn8 := hok.ntw
        obtain ⟨hl2, hmo, -, -⟩ := wrongF_ok hwr
        refine skip ?_
        show Code.wp _ _ _ _ _
        refine seq ?_
        refine region ?_
        refine sv (yAsg rfl) ?_
        refine sv (yAsg rfl) ?_
        refine nil ?_
        show Code.wp _ _ _ _ _
        refine seq ?_
        refine seq ?_
        refine region ?_
        refine sv (yAsg rfl) ?_
        refine nil ?_
        show Code.wp _ _ _ _ _
        refine block ?_
        refine loop (fun f w zz => ∃ (k : Nat) (vu vd : Value), f 1 = .slice al log.length cl ∧ f 2 = .int .i64 now ∧ f 3 = .pointer (some ⟨b3, 0, none⟩) ∧ f 9 = vu ∧ f 10 = vd ∧ f 11 = .int .i64 (k : Int) ∧ StX [] w0 w [rowI (vu) 3 1 (upK t log now k).length ((upK t log now k).flatMap Bx.encI), rowI (vd) 3 1 (downK t log now k).length ((downK t log now k).flatMap Bx.encI), blk b3 [.int .i64 t.polders, .slice a1 t.chans.length cap1, .slice a2 t.towns.length cap2, .slice a3 t.floods.length cap3] 26] ∧ (k ≤ t.towns.length) ∧ zz = t.towns.length - k) _ ⟨_, rfl, 0, _, _, h1, h2, h3, rfl, rfl, rfl, ((hS.nilrow 3 1).nilrow 3 1), (Nat.zero_le _), rfl⟩ ?_
        clear hS
        rintro f w _ ⟨k, vu, vd, h1, h2, h3, h9, h10, h11, hS, hk, rfl⟩
        refine seq ?_
        refine seq ?_
        refine region ?_
        refine sv (yMove h11) ?_
        refine sv (fa26_2 h3) ?_
        refine sv (yLdB rfl Tryz.isAgg23 (hS.at _) rfl) ?_
        refine sv (yLen rfl Tryz.underlying23) ?_
        refine sv (yLss rfl rfl) ?_
        refine nil ?_
        show Code.wp _ _ _ _ _
        refine cond rfl (fun c54 => ?_) (fun c54 => ?_)
        ·
          simp only [Bool.and_eq_true, Bool.or_eq_true, Bool.and_eq_false_iff, Bool.or_eq_false_iff, decide_eq_true_eq, decide_eq_false_iff_not, Bool.not_eq_true, Bool.not_eq_false, Bool.not_not, Bool.not_eq_eq_eq_not, Bool.not_true, Bool.not_false, Bool.false_eq_true, Bool.true_eq_false, ne_eq, Decidable.not_not, not_false_eq_true, not_true_eq_false] at c54
          have hkn : k < t.towns.length := by omega
          have hi : 0 ≤ (k : Int) ∧ (k : Int) < t.towns.length := by omega
          have hul := upK_len t log now k
          have hdl := downK_len t log now k
          refine skip ?_
          show Code.wp _ _ _ _ _
          refine seq ?_
          refine block ?_
          refine seq ?_
          refine seq ?_
          refine region ?_
          refine sv (yLdBA h3 Tryz.isAgg26 Tryz.sizeOf26 (hS.at _) rfl rfl) ?_
          refine sv (yMove h11) ?_
          refine sv (yMove h2) ?_
          refine scall Tryz.call74 (.cons rfl (.cons rfl (.cons rfl .nil))) (c_rstage (h.ext hS.ext) hok hi) ?_
          rintro _ w ⟨rfl, hE⟩; replace hS := hS.step hE; clear hE
          refine sv (yMove h1) ?_
          refine sv (yMove h11) ?_
          refine scall Tryz.call89 (.cons rfl (.cons rfl .nil)) (c_rsent (hlg.ext RMsg.stays hS.ext)) ?_
          rintro _ w ⟨rfl, hE⟩; replace hS := hS.step hE; clear hE
          refine sv (yGtr rfl rfl) ?_
          refine nil ?_
          show Code.wp _ _ _ _ _
          refine cond rfl (fun c64 => ?_) (fun c64 => ?_)
          ·
            simp only [Bool.and_eq_true, Bool.or_eq_true, Bool.and_eq_false_iff, Bool.or_eq_false_iff, decide_eq_true_eq, decide_eq_false_iff_not, Bool.not_eq_true, Bool.not_eq_false, Bool.not_not, Bool.not_eq_eq_eq_not, Bool.not_true, Bool.not_false, Bool.false_eq_true, Bool.true_eq_false, ne_eq, Decidable.not_not, not_false_eq_true, not_true_eq_false] at c64
            refine region ?_
            refine sv (yMove h9) ?_
            refine sv (yMove h11) ?_
            refine sbslice hS Tryz.underlying34 Tryz.sizeOf3 rfl Tryz.zeroValue3 rfl (.cons rfl rfl .nil) rfl ?_; clear hS; intro b67 w hS
            refine sapp (bytes := 8) (size := 1) (v := vu) (m := 1) hS rfl rfl Tryz.underlying34 ti3 rfl rfl rfl rfl (by decide) (blk_cells (hS.at _)) rfl rfl (by omega) (by omega) ?_; clear hS; intro v68 w hS
            refine sv (yAsg rfl) ?_
            refine nil ?_
            show Code.wp _ _ _ _ _
            refine seq ?_
            refine region ?_
            refine sv (yLdBA h3 Tryz.isAgg26 Tryz.sizeOf26 (hS.at _) rfl rfl) ?_
            refine sv (yMove h11) ?_
            refine sv (yMove h2) ?_
            refine scall Tryz.call74 (.cons rfl (.cons rfl (.cons rfl .nil))) (c_rstage (h.ext hS.ext) hok hi) ?_
            rintro _ w ⟨rfl, hE⟩; replace hS := hS.step hE; clear hE
            refine sv (yMove h1) ?_
            refine sv (yMove h11) ?_
            refine scall Tryz.call89 (.cons rfl (.cons rfl .nil)) (c_rsent (hlg.ext RMsg.stays hS.ext)) ?_
            rintro _ w ⟨rfl, hE⟩; replace hS := hS.step hE; clear hE
            refine sv (yLss rfl rfl) ?_
            refine nil ?_
            show Code.wp _ _ _ _ _
            refine cond rfl (fun c76 => ?_) (fun c76 => ?_)
            ·
              simp only [Bool.and_eq_true, Bool.or_eq_true, Bool.and_eq_false_iff, Bool.or_eq_false_iff, decide_eq_true_eq, decide_eq_false_iff_not, Bool.not_eq_true, Bool.not_eq_false, Bool.not_not, Bool.not_eq_eq_eq_not, Bool.not_true, Bool.not_false, Bool.false_eq_true, Bool.true_eq_false, ne_eq, Decidable.not_not, not_false_eq_true, not_true_eq_false] at c76
              exfalso; omega
            ·
              simp only [Bool.and_eq_true, Bool.or_eq_true, Bool.and_eq_false_iff, Bool.or_eq_false_iff, decide_eq_true_eq, decide_eq_false_iff_not, Bool.not_eq_true, Bool.not_eq_false, Bool.not_not, Bool.not_eq_eq_eq_not, Bool.not_true, Bool.not_false, Bool.false_eq_true, Bool.true_eq_false, ne_eq, Decidable.not_not, not_false_eq_true, not_true_eq_false] at c76
              refine skip ?_
              show Code.wp _ _ _ _ _
              refine region ?_
              refine sv (yMove h11) ?_
              refine sv (yAdd rfl rfl ⟨by omega, by omega⟩) ?_
              refine sv (yAsg rfl) ?_
              refine nil ?_
              exact ⟨_, _, rfl, ⟨k + 1, _, _, h1, h2, h3, rfl, h10, rfl, (by rw [show upK t log now (k + 1) = upK t log now k ++ [(k : Int)] from filt_in (p := fun i => decide (lastF log i < stageF t i now)) hkn (decide_eq_true c64), show downK t log now (k + 1) = downK t log now k from filt_out (p := fun i => decide (stageF t i now < lastF log i)) hkn (decide_eq_false (by omega)), List.flatMap_append, List.length_append]; exact hS.sub (.cons _ (List.Sublist.refl _))), (by omega), rfl⟩, by omega⟩
          ·
            simp only [Bool.and_eq_true, Bool.or_eq_true, Bool.and_eq_false_iff, Bool.or_eq_false_iff, decide_eq_true_eq, decide_eq_false_iff_not, Bool.not_eq_true, Bool.not_eq_false, Bool.not_not, Bool.not_eq_eq_eq_not, Bool.not_true, Bool.not_false, Bool.false_eq_true, Bool.true_eq_false, ne_eq, Decidable.not_not, not_false_eq_true, not_true_eq_false] at c64
            refine skip ?_
            show Code.wp _ _ _ _ _
            refine seq ?_
            refine region ?_
            refine sv (yLdBA h3 Tryz.isAgg26 Tryz.sizeOf26 (hS.at _) rfl rfl) ?_
            refine sv (yMove h11) ?_
            refine sv (yMove h2) ?_
            refine scall Tryz.call74 (.cons rfl (.cons rfl (.cons rfl .nil))) (c_rstage (h.ext hS.ext) hok hi) ?_
            rintro _ w ⟨rfl, hE⟩; replace hS := hS.step hE; clear hE
            refine sv (yMove h1) ?_
            refine sv (yMove h11) ?_
            refine scall Tryz.call89 (.cons rfl (.cons rfl .nil)) (c_rsent (hlg.ext RMsg.stays hS.ext)) ?_
            rintro _ w ⟨rfl, hE⟩; replace hS := hS.step hE; clear hE
            refine sv (yLss rfl rfl) ?_
            refine nil ?_
            show Code.wp _ _ _ _ _
            refine cond rfl (fun c76 => ?_) (fun c76 => ?_)
            ·
              simp only [Bool.and_eq_true, Bool.or_eq_true, Bool.and_eq_false_iff, Bool.or_eq_false_iff, decide_eq_true_eq, decide_eq_false_iff_not, Bool.not_eq_true, Bool.not_eq_false, Bool.not_not, Bool.not_eq_eq_eq_not, Bool.not_true, Bool.not_false, Bool.false_eq_true, Bool.true_eq_false, ne_eq, Decidable.not_not, not_false_eq_true, not_true_eq_false] at c76
              refine region ?_
              refine sv (yMove h10) ?_
              refine sv (yMove h11) ?_
              refine sbslice hS Tryz.underlying34 Tryz.sizeOf3 rfl Tryz.zeroValue3 rfl (.cons rfl rfl .nil) rfl ?_; clear hS; intro b79 w hS
              refine sapp (bytes := 8) (size := 1) (v := vd) (m := 1) hS rfl rfl Tryz.underlying34 ti3 rfl rfl rfl rfl (by decide) (blk_cells (hS.at _)) rfl rfl (by omega) (by omega) ?_; clear hS; intro v80 w hS
              refine sv (yAsg rfl) ?_
              refine nil ?_
              show Code.wp _ _ _ _ _
              refine region ?_
              refine sv (yMove h11) ?_
              refine sv (yAdd rfl rfl ⟨by omega, by omega⟩) ?_
              refine sv (yAsg rfl) ?_
              refine nil ?_
              exact ⟨_, _, rfl, ⟨k + 1, _, _, h1, h2, h3, h9, rfl, rfl, (by rw [show upK t log now (k + 1) = upK t log now k from filt_out (p := fun i => decide (lastF log i < stageF t i now)) hkn (decide_eq_false c64), show downK t log now (k + 1) = downK t log now k ++ [(k : Int)] from filt_in (p := fun i => decide (stageF t i now < lastF log i)) hkn (decide_eq_true c76), List.flatMap_append, List.length_append]; exact hS.sub (.cons _ (List.Sublist.refl _))), (by omega), rfl⟩, by omega⟩
            ·
              simp only [Bool.and_eq_true, Bool.or_eq_true, Bool.and_eq_false_iff, Bool.or_eq_false_iff, decide_eq_true_eq, decide_eq_false_iff_not, Bool.not_eq_true, Bool.not_eq_false, Bool.not_not, Bool.not_eq_eq_eq_not, Bool.not_true, Bool.not_false, Bool.false_eq_true, Bool.true_eq_false, ne_eq, Decidable.not_not, not_false_eq_true, not_true_eq_false] at c76
              refine skip ?_
              show Code.wp _ _ _ _ _
              refine region ?_
              refine sv (yMove h11) ?_
              refine sv (yAdd rfl rfl ⟨by omega, by omega⟩) ?_
              refine sv (yAsg rfl) ?_
              refine nil ?_
              exact ⟨_, _, rfl, ⟨k + 1, _, _, h1, h2, h3, h9, h10, rfl, (by rw [show upK t log now (k + 1) = upK t log now k from filt_out (p := fun i => decide (lastF log i < stageF t i now)) hkn (decide_eq_false c64), show downK t log now (k + 1) = downK t log now k from filt_out (p := fun i => decide (stageF t i now < lastF log i)) hkn (decide_eq_false c76)]; exact hS), (by omega), rfl⟩, by omega⟩
        ·
          simp only [Bool.and_eq_true, Bool.or_eq_true, Bool.and_eq_false_iff, Bool.or_eq_false_iff, decide_eq_true_eq, decide_eq_false_iff_not, Bool.not_eq_true, Bool.not_eq_false, Bool.not_not, Bool.not_eq_eq_eq_not, Bool.not_true, Bool.not_false, Bool.false_eq_true, Bool.true_eq_false, ne_eq, Decidable.not_not, not_false_eq_true, not_true_eq_false] at c54
          obtain rfl : k = t.towns.length := by omega
          rw [upK_end, downK_end] at hS
          have hul := upK_len t log now t.towns.length
          have hdl := downK_len t log now t.towns.length
          rw [upK_end] at hul
          rw [downK_end] at hdl
          obtain ⟨au, cu, rfl⟩ := row_shape (hS.row vu)
          obtain ⟨ad, cd, rfl⟩ := row_shape (hS.row vd)
          refine exit ?_
          show Code.wp _ _ _ _ _
          refine seq ?_
          refine region ?_
          refine sv (yLdBA h3 Tryz.isAgg26 Tryz.sizeOf26 (hS.at _) rfl rfl) ?_
          refine sv (yMove h9) ?_
          refine scall Tryz.call78 (.cons rfl (.cons rfl .nil)) (c_rbyE (h.ext hS.ext) hok (sl_ints (hS.row (.slice au (upL t log now).length cu)) rfl (fun x hx => by have := upL_mem hx; constructor <;> omega)) (fun x hx => upL_mem hx) (by omega)) ?_
          rintro v83 w hM; replace hS := hS.call1 hM; clear hM
          rw [sort_same _ (upL_asc t log now), ← sortV_len (fun i => (arr t i).1.lo) (upL t log now)] at hS
          obtain ⟨a8, c8, rfl⟩ := row_shape (hS.row v83)
          have hus := sortV_len (fun i => (arr t i).1.lo) (upL t log now)
          refine sv (yMove h10) ?_
          refine sappS (bytes := 8) (size := 1) hS rfl rfl Tryz.underlying34 ti3 rfl rfl rfl rfl (by decide) Tryz.sizeOf3 (fun hh => by obtain ⟨bd, e1, e2⟩ := row_get (hS.row (.slice ad (downL t log now).length cd)) hh; exact ⟨bd, 0, e1, e2⟩) (by rw [flat_len encI_len]) (ints_one _) (by omega) (by omega) ?_; clear hS; intro v85 w hS
          rw [← List.length_append, ← List.flatMap_append] at hS
          replace hS : StX [] w0 w (rowI (v85) 3 1 (ordL t log now).length ((ordL t log now).flatMap Bx.encI) :: rowI (.slice ad (downL t log now).length cd) 3 1 (downL t log now).length ((downL t log now).flatMap Bx.encI) :: blk b3 [.int .i64 t.polders, .slice a1 t.chans.length cap1, .slice a2 t.towns.length cap2, .slice a3 t.floods.length cap3] 26 :: []) := hS.sub (.cons_cons _ (.cons _ (.cons_cons _ (.cons_cons _ (List.nil_sublist _)))))
          obtain ⟨ao, co, rfl⟩ := row_shape (hS.row v85)
          have hor := ordL_len t log now
          refine sv (yAsg rfl) ?_
          refine nil ?_
          show Code.wp _ _ _ _ _
          refine seq ?_
          refine region ?_
          refine sbslice0 hS Tryz.underlying62 Tryz.sizeOf70 ?_; clear hS; intro b86 w hS
          refine sv (yMove h1) ?_
          refine sappS (bytes := 40) (size := 5) hS rfl rfl Tryz.underlying62 ti70 rfl rfl rfl rfl (by decide) Tryz.sizeOf70 (fun hh => by obtain ⟨bd, od, e1, e2⟩ := encs_news (enc := msgC) (fun _ _ _ h => h.1) hlg hh; exact ⟨bd, od, e1, e2.ext hS.ext⟩) (by rw [flat_len msgC_len]) (msgs_one log) (by omega) (by omega) ?_; clear hS; intro v88 w hS; rw [Nat.zero_add, List.nil_append] at hS
          refine sv (yAsg rfl) ?_
          refine nil ?_
          show Code.wp _ _ _ _ _
          refine seq ?_
          refine seq ?_
          refine region ?_
          refine sv (yAsg rfl) ?_
          refine nil ?_
          show Code.wp _ _ _ _ _
          refine block ?_
          refine loop (fun f w zz => ∃ (k : Nat) (out : List Msg) (v : Value), f 1 = .slice al log.length cl ∧ f 2 = .int .i64 now ∧ f 3 = .pointer (some ⟨b3, 0, none⟩) ∧ f 12 = .slice ao (ordL t log now).length co ∧ f 13 = v ∧ f 14 = .int .i64 (k : Int) ∧ StX [] w0 w [rowI (v) 70 5 ((log ++ out)).length (((log ++ out)).flatMap msgC), rowI (.slice ao (ordL t log now).length co) 3 1 (ordL t log now).length ((ordL t log now).flatMap Bx.encI), blk b3 [.int .i64 t.polders, .slice a1 t.chans.length cap1, .slice a2 t.towns.length cap2, .slice a3 t.floods.length cap3] 26] ∧ (k ≤ (ordL t log now).length) ∧ (((ordL t log now).take k).foldl (nextStep t now) log = (log ++ out)) ∧ (LogOk t (log ++ out) now) ∧ (out.length ≤ k) ∧ zz = (ordL t log now).length - k) _ ⟨_, rfl, 0, [], _, h1, h2, h3, rfl, rfl, rfl, (by rw [List.append_nil]; exact hS.sub (.cons_cons _ (.cons_cons _ (.cons _ (.cons_cons _ (List.nil_sublist _)))))), (Nat.zero_le _), (by rw [List.append_nil]; rfl), (by rw [List.append_nil]; exact log_start c48), (Nat.le_refl _), rfl⟩ ?_
          clear hS
          rintro f w _ ⟨k, out, v, h1, h2, h3, h12, h13, h14, hS, hk, hA, hLO, hol, rfl⟩
          refine seq ?_
          refine seq ?_
          refine region ?_
          refine sv (yMove h14) ?_
          refine sv (yMove h12) ?_
          refine sv (yLen rfl Tryz.underlying34) ?_
          refine sv (yLss rfl rfl) ?_
          refine nil ?_
          show Code.wp _ _ _ _ _
          refine cond rfl (fun c92 => ?_) (fun c92 => ?_)
          ·
            simp only [Bool.and_eq_true, Bool.or_eq_true, Bool.and_eq_false_iff, Bool.or_eq_false_iff, decide_eq_true_eq, decide_eq_false_iff_not, Bool.not_eq_true, Bool.not_eq_false, Bool.not_not, Bool.not_eq_eq_eq_not, Bool.not_true, Bool.not_false, Bool.false_eq_true, Bool.true_eq_false, ne_eq, Decidable.not_not, not_false_eq_true, not_true_eq_false] at c92
            obtain ⟨am, cm, rfl⟩ := row_shape (hS.row v)
            obtain ⟨i, hi, -⟩ := drop_of (l := ordL t log now) (k := k) (by omega)
            have hib := ordL_mem (List.mem_of_getElem? hi)
            obtain ⟨go, hao, -⟩ := row_get (hS.row (.slice ao (ordL t log now).length co)) (by omega)
            have hal : (log ++ out).length = log.length + out.length := List.length_append
            have hms := hLO.i64 hok (by omega)
            refine skip ?_
            show Code.wp _ _ _ _ _
            refine seq ?_
            refine block ?_
            refine seq ?_
            refine region ?_
            refine sv (yMove h12) ?_
            refine sv (yMove h14) ?_
            refine sv (yIxa rfl hao rfl Tryz.runUnderlying34 Tryz.sizeOf3 (by omega) (by omega)) ?_
            refine sv (yLd rfl Tryz.isAgg3 ((flat_cells (enc := Bx.encI) encI_len (row_at (hS.row (.slice ao (ordL t log now).length co)) hao (by omega)) hi).one)) ?_
            refine sv (yAsg rfl) ?_
            refine nil ?_
            show Code.wp _ _ _ _ _
            refine seq ?_
            refine region ?_
            refine sv (yLdBA h3 Tryz.isAgg26 Tryz.sizeOf26 (hS.at _) rfl rfl) ?_
            refine sv (yMove h13) ?_
            refine sv (yMove rfl) ?_
            refine sv (yMove h2) ?_
            refine scall Tryz.call90 (.cons rfl (.cons rfl (.cons rfl (.cons rfl .nil)))) (c_rby (h.ext hS.ext) (sl_msgs (hS.row (.slice am (log ++ out).length cm)) rfl hms) hok hib (by omega)) ?_
            rintro _ w ⟨rfl, hE⟩; replace hS := hS.step hE; clear hE
            refine sv (yAsg rfl) ?_
            refine nil ?_
            show Code.wp _ _ _ _ _
            refine seq ?_
            refine region ?_
            refine sv (yMove rfl) ?_
            refine sv (yGeq rfl rfl) ?_
            refine nil ?_
            show Code.wp _ _ _ _ _
            refine cond rfl (fun c105 => ?_) (fun c105 => ?_)
            ·
              simp only [Bool.and_eq_true, Bool.or_eq_true, Bool.and_eq_false_iff, Bool.or_eq_false_iff, decide_eq_true_eq, decide_eq_false_iff_not, Bool.not_eq_true, Bool.not_eq_false, Bool.not_not, Bool.not_eq_eq_eq_not, Bool.not_true, Bool.not_false, Bool.false_eq_true, Bool.true_eq_false, ne_eq, Decidable.not_not, not_false_eq_true, not_true_eq_false] at c105
              obtain ⟨c, hc1, hc2, hc3⟩ := (by_same (t := t) (all := (log ++ out)) (now := now) (twn t i).chans (fun c hc => (chan_mem hok hc).1)).resolve_left (fun hh => by rw [hh.2] at c105; exact absurd c105 (by decide))
              have hst : nextStep t now (log ++ out) i = (log ++ out) ++ [msgF t (log ++ out) now i c] := by unfold nextStep; rw [byF_G, hc1]
              refine region ?_
              refine sv (yMove h13) ?_
              refine sv (yMove h13) ?_
              refine sv (yLen rfl Tryz.underlying62) ?_
              refine sv (yAdd rfl rfl ⟨by omega, by omega⟩) ?_
              refine sv (yMove rfl) ?_
              refine sv (yLdBA h3 Tryz.isAgg26 Tryz.sizeOf26 (hS.at _) rfl rfl) ?_
              refine sv (yMove rfl) ?_
              refine sv (yMove h2) ?_
              refine scall Tryz.call74 (.cons rfl (.cons rfl (.cons rfl .nil))) (c_rstage (h.ext hS.ext) hok hib) ?_
              rintro _ w ⟨rfl, hE⟩; replace hS := hS.step hE; clear hE
              refine sv (yMove rfl) ?_
              refine sv (yMove h2) ?_
              refine sv (yBuild Tryz.zeroValue70 rfl pl70 (.cons rfl rfl (.cons rfl rfl (.cons rfl rfl (.cons rfl rfl (.cons rfl rfl .nil))))) rfl) ?_
              refine sbslice hS Tryz.underlying62 Tryz.sizeOf70 rfl Tryz.zeroValue70 rfl (.cons rfl rfl .nil) rfl ?_; clear hS; intro b118 w hS
              refine sapp (bytes := 40) (size := 5) (v := (.slice am (log ++ out).length cm)) (m := 1) hS rfl rfl Tryz.underlying62 ti70 rfl rfl rfl rfl (by decide) (blk_cells (hS.at _)) rfl rfl (by omega) (by omega) ?_; clear hS; intro v119 w hS
              refine sv (yAsg rfl) ?_
              refine nil ?_
              show Code.wp _ _ _ _ _
              refine region ?_
              refine sv (yMove h14) ?_
              refine sv (yAdd rfl rfl ⟨by omega, by omega⟩) ?_
              refine sv (yAsg rfl) ?_
              refine nil ?_
              exact ⟨_, _, rfl, ⟨k + 1, out ++ [msgF t (log ++ out) now i c], _, h1, h2, h3, h12, rfl, rfl, (by rw [hc2] at hS; rw [← List.append_assoc, List.flatMap_append, List.length_append]; simp only [List.flatMap_cons, List.flatMap_nil, List.append_nil, msgC, msgF, List.length_append, Int.natCast_add, List.length_singleton] at hS ⊢; exact hS.sub (.cons _ (List.Sublist.refl _))), (by omega), (fold_some hi hA hst), (by have e := step_log hok hib hnw hLO; rw [hst] at e; rw [← List.append_assoc]; exact e), (by simp; omega), rfl⟩, by omega⟩
            ·
              simp only [Bool.and_eq_true, Bool.or_eq_true, Bool.and_eq_false_iff, Bool.or_eq_false_iff, decide_eq_true_eq, decide_eq_false_iff_not, Bool.not_eq_true, Bool.not_eq_false, Bool.not_not, Bool.not_eq_eq_eq_not, Bool.not_true, Bool.not_false, Bool.false_eq_true, Bool.true_eq_false, ne_eq, Decidable.not_not, not_false_eq_true, not_true_eq_false] at c105
              have hcn : byG t (log ++ out) now (twn t i).chans = none := by
                rcases by_same (t := t) (all := (log ++ out)) (now := now) (twn t i).chans (fun c hc => (chan_mem hok hc).1) with hh | ⟨c, -, hh, hh2⟩
                · exact hh.1
                · have := (chan_mem hok hh2).1; omega
              refine skip ?_
              show Code.wp _ _ _ _ _
              refine region ?_
              refine sv (yMove h14) ?_
              refine sv (yAdd rfl rfl ⟨by omega, by omega⟩) ?_
              refine sv (yAsg rfl) ?_
              refine nil ?_
              exact ⟨_, _, rfl, ⟨k + 1, out, _, h1, h2, h3, h12, h13, rfl, hS, (by omega), (fold_none hi hA (by unfold nextStep; rw [byF_G, hcn])), (hLO), (by omega), rfl⟩, by omega⟩
          ·
            simp only [Bool.and_eq_true, Bool.or_eq_true, Bool.and_eq_false_iff, Bool.or_eq_false_iff, decide_eq_true_eq, decide_eq_false_iff_not, Bool.not_eq_true, Bool.not_eq_false, Bool.not_not, Bool.not_eq_eq_eq_not, Bool.not_true, Bool.not_false, Bool.false_eq_true, Bool.true_eq_false, ne_eq, Decidable.not_not, not_false_eq_true, not_true_eq_false] at c92
            obtain rfl : k = (ordL t log now).length := by omega
            obtain ⟨am, cm, rfl⟩ := row_shape (hS.row v)
            have hal : (log ++ out).length = log.length + out.length := List.length_append
            have hms := hLO.i64 hok (by omega)
            refine exit ?_
            show Code.wp _ _ _ _ _
            refine seq ?_
            refine region ?_
            refine sv (yMove h13) ?_
            refine sv (yMove h1) ?_
            refine sv (yLen rfl Tryz.underlying62) ?_
            refine sv (yFromA (i := log.length) rfl rfl Tryz.underlying62 Tryz.sizeOf70 (by omega)) ?_
            refine sv (yAsg rfl) ?_
            refine sv (yAsg rfl) ?_
            refine nil ?_
            show Code.wp _ _ _ _ _
            refine wp_ret ?_
            refine retQ (res2 rfl rfl rfl) ?_
            have hnf := next_end hA
            have hf : nextR t log now = (out, 0) := by unfold nextR; rw [if_neg (fun h => h c48), hnf]
            rw [hf]
            have hsl := (sl_msgs (hS.row (.slice am (log ++ out).length cm)) rfl hms).drop (i := log.length) (by omega)
            rw [List.drop_left] at hsl
            exact ⟨_, rfl, hsl, hS.ext⟩
end Go.Proofs.YtmoilbakmlekbaaGreatDoor

/- part Aw35 -/
namespace Go.Proofs.YtmoilbakmlekbaaGreatDoor
open Go Bx
set_option maxHeartbeats 2000000 in
/-- barrage/barragelaw11.AlarmLogs -/
theorem w_AlarmLogs {t : Task} {cs : List Value} {log : List Msg} {lv : Value} {p : Int × Int} {qs : List Value} {w0 : World} (hg : Glb w0) (h : RTask w0 cs t) (hlg : Sl w0 5 RMsg lv log) (h2 : RTwoI w0 qs p) : CV Tryz.prog 9 #[.agg cs.toArray, lv, .agg qs.toArray] w0 (.bool true) := by
  obtain ⟨hv, nv, fv, rfl, hpol, hsh, hsn, hsf⟩ := id h
  obtain ⟨a1, cap1, rfl, hcap1, hmx1, hel1⟩ := id hsh
  obtain ⟨a2, cap2, rfl, hcap2, hmx2, hel2⟩ := id hsn
  obtain ⟨a3, cap3, rfl, hcap3, hmx3, hel3⟩ := id hsf
  obtain ⟨rfl, hp1, hp2⟩ := id h2
  refine enter Tryz.func9 rfl Tryz.ntmps9 rfl ?_
  have hS := St.start w0
  refine seq ?_
  refine region ?_
  refine sbox hS rfl rfl ?_; clear hS; intro b3 w hS
  refine sbox hS rfl rfl ?_; clear hS; intro b5 w hS
  refine sv (yAsg rfl) ?_
  refine nil ?_
  show Code.wp _ _ _ _ _
  refine seq ?_
  refine region ?_
  refine sv (yLdBA rfl Tryz.isAgg26 Tryz.sizeOf26 (hS.at _) rfl rfl) ?_
  refine sv (yMove rfl) ?_
  refine sv (yIxA rfl rfl Tryz.runUnderlying63 Tryz.sizeOf3 (by omega) (by omega)) ?_
  refine sv (yLdB rfl Tryz.isAgg3 (hS.at _) rfl) ?_
  refine sv (yIxA rfl rfl Tryz.runUnderlying63 Tryz.sizeOf3 (by omega) (by omega)) ?_
  refine sv (yLdB rfl Tryz.isAgg3 (hS.at _) rfl) ?_
  refine scall Tryz.call31 (.cons rfl (.cons rfl (.cons rfl (.cons rfl .nil)))) (c_Knows (hg.ext hS.ext) (h.ext hS.ext) (hlg.ext RMsg.stays hS.ext)) ?_
  rintro _ w ⟨rfl, hE⟩; replace hS := hS.step hE; clear hE
  refine sv (yMove rfl) ?_
  refine sv (yExt rfl rfl) ?_
  refine sv (yExt rfl rfl) ?_
  refine sv (yExt rfl rfl) ?_
  refine sv (yAsg rfl) ?_
  refine sv (yAsg rfl) ?_
  refine sv (yAsg rfl) ?_
  refine nil ?_
  show Code.wp _ _ _ _ _
  refine seq ?_
  refine region ?_
  refine sv (yLdBA rfl Tryz.isAgg26 Tryz.sizeOf26 (hS.at _) rfl rfl) ?_
  refine sv (yMove rfl) ?_
  refine sv (yIxA rfl rfl Tryz.runUnderlying63 Tryz.sizeOf3 (by omega) (by omega)) ?_
  refine sv (yLdB rfl Tryz.isAgg3 (hS.at _) rfl) ?_
  refine sv (yIxA rfl rfl Tryz.runUnderlying63 Tryz.sizeOf3 (by omega) (by omega)) ?_
  refine sv (yLdB rfl Tryz.isAgg3 (hS.at _) rfl) ?_
  refine scall Tryz.call32 (.cons rfl (.cons rfl (.cons rfl (.cons rfl .nil)))) (c_rKnows (h.ext hS.ext) (hlg.ext RMsg.stays hS.ext)) ?_
  rintro _ w ⟨rfl, hE⟩; replace hS := hS.step hE; clear hE
  refine sv (yMove rfl) ?_
  refine sv (yExt rfl rfl) ?_
  refine sv (yExt rfl rfl) ?_
  refine sv (yExt rfl rfl) ?_
  refine sv (yAsg rfl) ?_
  refine sv (yAsg rfl) ?_
  refine sv (yAsg rfl) ?_
  refine nil ?_
  show Code.wp _ _ _ _ _
  refine seq ?_
  refine seq ?_
  refine region ?_
  refine sv (yMove rfl) ?_
  refine sv (yMove rfl) ?_
  refine sv (yNeq rfl rfl) ?_
  refine sv (yMove rfl) ?_
  refine sg rfl rfl rfl (fun g => (yMove rfl)) (fun v41 g41 => ?_)
  refine sg rfl rfl rfl (fun g => (yMove rfl)) (fun v42 g42 => ?_)
  refine sg rfl rfl rfl (fun g => (yNeq (g41.1 g) (g42.1 g))) (fun v43 g43 => ?_)
  refine sv (yOr rfl rfl (fun hB => (g43.1 hB))) ?_
  refine sv (yMove rfl) ?_
  refine sg rfl rfl rfl (fun g => (yMove rfl)) (fun v46 g46 => ?_)
  refine sg rfl rfl rfl (fun g => (yMove rfl)) (fun v47 g47 => ?_)
  refine sg rfl rfl rfl (fun g => (yNeq (g46.1 g) (g47.1 g))) (fun v48 g48 => ?_)
  refine sv (yOr rfl rfl (fun hB => (g48.1 hB))) ?_
  refine nil ?_
  show Code.wp _ _ _ _ _
  refine cond rfl (fun c49 => ?_) (fun c49 => ?_)
  ·
    exact absurd c49 (by simp)
  ·
    refine skip ?_
    show Code.wp _ _ _ _ _
    refine seq ?_
    refine region ?_
    refine sv (yLdBA rfl Tryz.isAgg26 Tryz.sizeOf26 (hS.at _) rfl rfl) ?_
    refine sv (yMove rfl) ?_
    refine sv (yIxA rfl rfl Tryz.runUnderlying63 Tryz.sizeOf3 (by omega) (by omega)) ?_
    refine sv (yLdB rfl Tryz.isAgg3 (hS.at _) rfl) ?_
    refine scall Tryz.call33 (.cons rfl (.cons rfl (.cons rfl .nil))) (c_Next (hg.ext hS.ext) (h.ext hS.ext) (hlg.ext RMsg.stays hS.ext)) ?_
    rintro _ w ⟨mv, rfl, hM⟩; replace hS := hS.call1 hM; clear hM
    refine sv (yMove rfl) ?_
    refine sv (yExt rfl rfl) ?_
    refine sv (yExt rfl rfl) ?_
    refine sv (yAsg rfl) ?_
    refine sv (yAsg rfl) ?_
    refine nil ?_
    show Code.wp _ _ _ _ _
    refine seq ?_
    refine region ?_
    refine sv (yLdBA rfl Tryz.isAgg26 Tryz.sizeOf26 (hS.at _) rfl rfl) ?_
    refine sv (yMove rfl) ?_
    refine sv (yIxA rfl rfl Tryz.runUnderlying63 Tryz.sizeOf3 (by omega) (by omega)) ?_
    refine sv (yLdB rfl Tryz.isAgg3 (hS.at _) rfl) ?_
    refine scall Tryz.call34 (.cons rfl (.cons rfl (.cons rfl .nil))) (c_rNext (h.ext hS.ext) (hlg.ext RMsg.stays hS.ext)) ?_
    rintro _ w ⟨mk, rfl, hK, hE⟩; replace hS := hS.step hE; clear hE
    refine sv (yMove rfl) ?_
    refine sv (yExt rfl rfl) ?_
    refine sv (yExt rfl rfl) ?_
    refine sv (yAsg rfl) ?_
    refine sv (yAsg rfl) ?_
    refine nil ?_
    show Code.wp _ _ _ _ _
    refine seq ?_
    refine region ?_
    refine sv (yMove rfl) ?_
    refine sv (yMove rfl) ?_
    refine scall Tryz.call35 (.cons rfl (.cons rfl .nil)) (c_Msgs (sl_msgs (hS.row mv) rfl (nextR_i64 t log p.2)) hK) ?_
    rintro _ w ⟨rfl, hE⟩; replace hS := hS.step hE; clear hE
    refine sv (yMove rfl) ?_
    refine sg rfl rfl rfl (fun g => (yMove rfl)) (fun v70 g70 => ?_)
    refine sg rfl rfl rfl (fun g => (yMove rfl)) (fun v71 g71 => ?_)
    refine sg rfl rfl rfl (fun g => (yEql (g70.1 g) (g71.1 g))) (fun v72 g72 => ?_)
    refine sv (yAnd rfl (fun hB => (g72.1 hB)) rfl) ?_
    refine sv (yMove rfl) ?_
    refine sgc hS rfl rfl rfl Tryz.call20 (fun g => .nil) (fun g => (c_Awake (hg.ext hS.ext))) ?_; clear hS; intro v75 w hS g75
    refine sv (yAnd rfl (fun hB => (g75.1 hB)) rfl) ?_
    refine sv (yAsg rfl) ?_
    refine nil ?_
    show Code.wp _ _ _ _ _
    refine wp_ret ?_
    exact retV (res1 rfl (eqB (by simp))) hS.ext
end Go.Proofs.YtmoilbakmlekbaaGreatDoor

/- part A29 -/
namespace Bx
open Go Go.RowKit
theorem Rows.app {α : Type} {w : World} {k : Nat} {R : World → List Value → α → Prop} : ∀ {c1 c2 : List (List Value)} {l1 l2 : List α}, Bx.Rows w k R c1 l1 → Bx.Rows w k R c2 l2 → Bx.Rows w k R (c1 ++ c2) (l1 ++ l2)
  | [], _, [], _, _, h => h
  | _ :: _, _, _ :: _, _, ⟨h1, h2, h3⟩, h => ⟨h1, h2, Rows.app h3 h⟩
  | [], _, _ :: _, _, h, _ => h.elim
  | _ :: _, _, [], _, h, _ => h.elim
end Bx

/- part RdF -/
namespace Go.Proofs.YtmoilbakmlekbaaGreatDoor
open Go Bx
section
variable {H : Type} {enc : TypeId × Value → H} {w : World} {base : Nat} {spare : Nat → Bool} {held : Bool} {fuel : Nat} {cs : List Value} {x : DataW H × List MemPlace}
theorem rdF26 (h : DataW.trod enc Tryz.prog w base spare held fuel 26 cs = some x) (hW : WOk Tryz.prog 26 x.1) : ∃ n c0 c1 c2 c3, cs = [c0, c1, c2, c3] ∧ (∃ y, DataW.trod enc Tryz.prog w base spare held n 3 [c0] = some y ∧ WOk Tryz.prog 3 y.1) ∧ (∃ y, DataW.trod enc Tryz.prog w base spare held n 22 [c1] = some y ∧ WOk Tryz.prog 22 y.1) ∧ (∃ y, DataW.trod enc Tryz.prog w base spare held n 23 [c2] = some y ∧ WOk Tryz.prog 23 y.1) ∧ (∃ y, DataW.trod enc Tryz.prog w base spare held n 24 [c3] = some y ∧ WOk Tryz.prog 24 y.1) := by
  have z3 : Tryz.prog.cellsOf 3 = 1 := by kernel_rfl
  have z22 : Tryz.prog.cellsOf 22 = 1 := by kernel_rfl
  have z23 : Tryz.prog.cellsOf 23 = 1 := by kernel_rfl
  have z24 : Tryz.prog.cellsOf 24 = 1 := by kernel_rfl
  obtain ⟨hl, n, hf⟩ := rdw_fields Tryz.underlying26 h hW
  have hz : Tryz.prog.cellsOf 26 = 4 := by kernel_rfl
  rw [hz] at hl
  obtain ⟨c0, c1, c2, c3, rfl⟩ := four_of hl
  have f0 : ∃ y, DataW.trod enc Tryz.prog w base spare held n 3 ((List.drop 0 [c0, c1, c2, c3]).take (Tryz.prog.cellsOf 3)) = some y ∧ WOk Tryz.prog 3 y.1 := hf 0 _ rfl
  rw [z3] at f0
  have f1 : ∃ y, DataW.trod enc Tryz.prog w base spare held n 22 ((List.drop 1 [c0, c1, c2, c3]).take (Tryz.prog.cellsOf 22)) = some y ∧ WOk Tryz.prog 22 y.1 := hf 1 _ rfl
  rw [z22] at f1
  have f2 : ∃ y, DataW.trod enc Tryz.prog w base spare held n 23 ((List.drop 2 [c0, c1, c2, c3]).take (Tryz.prog.cellsOf 23)) = some y ∧ WOk Tryz.prog 23 y.1 := hf 2 _ rfl
  rw [z23] at f2
  have f3 : ∃ y, DataW.trod enc Tryz.prog w base spare held n 24 ((List.drop 3 [c0, c1, c2, c3]).take (Tryz.prog.cellsOf 24)) = some y ∧ WOk Tryz.prog 24 y.1 := hf 3 _ rfl
  rw [z24] at f3
  exact ⟨n, c0, c1, c2, c3, rfl, f0, f1, f2, f3⟩
theorem rdF36 (h : DataW.trod enc Tryz.prog w base spare held fuel 36 cs = some x) (hW : WOk Tryz.prog 36 x.1) : ∃ n c0 c1 c2 c3 c4, cs = [c0, c1, c2, c3, c4] ∧ (∃ y, DataW.trod enc Tryz.prog w base spare held n 9 [c0] = some y ∧ WOk Tryz.prog 9 y.1) ∧ (∃ y, DataW.trod enc Tryz.prog w base spare held n 3 [c1] = some y ∧ WOk Tryz.prog 3 y.1) ∧ (∃ y, DataW.trod enc Tryz.prog w base spare held n 3 [c2] = some y ∧ WOk Tryz.prog 3 y.1) ∧ (∃ y, DataW.trod enc Tryz.prog w base spare held n 3 [c3] = some y ∧ WOk Tryz.prog 3 y.1) ∧ (∃ y, DataW.trod enc Tryz.prog w base spare held n 34 [c4] = some y ∧ WOk Tryz.prog 34 y.1) := by
  have z3 : Tryz.prog.cellsOf 3 = 1 := by kernel_rfl
  have z9 : Tryz.prog.cellsOf 9 = 1 := by kernel_rfl
  have z34 : Tryz.prog.cellsOf 34 = 1 := by kernel_rfl
  obtain ⟨hl, n, hf⟩ := rdw_fields Tryz.underlying36 h hW
  have hz : Tryz.prog.cellsOf 36 = 5 := by kernel_rfl
  rw [hz] at hl
  obtain ⟨c0, c1, c2, c3, c4, rfl⟩ := five_of hl
  have f0 : ∃ y, DataW.trod enc Tryz.prog w base spare held n 9 ((List.drop 0 [c0, c1, c2, c3, c4]).take (Tryz.prog.cellsOf 9)) = some y ∧ WOk Tryz.prog 9 y.1 := hf 0 _ rfl
  rw [z9] at f0
  have f1 : ∃ y, DataW.trod enc Tryz.prog w base spare held n 3 ((List.drop 1 [c0, c1, c2, c3, c4]).take (Tryz.prog.cellsOf 3)) = some y ∧ WOk Tryz.prog 3 y.1 := hf 1 _ rfl
  rw [z3] at f1
  have f2 : ∃ y, DataW.trod enc Tryz.prog w base spare held n 3 ((List.drop 2 [c0, c1, c2, c3, c4]).take (Tryz.prog.cellsOf 3)) = some y ∧ WOk Tryz.prog 3 y.1 := hf 2 _ rfl
  rw [z3] at f2
  have f3 : ∃ y, DataW.trod enc Tryz.prog w base spare held n 3 ((List.drop 3 [c0, c1, c2, c3, c4]).take (Tryz.prog.cellsOf 3)) = some y ∧ WOk Tryz.prog 3 y.1 := hf 3 _ rfl
  rw [z3] at f3
  have f4 : ∃ y, DataW.trod enc Tryz.prog w base spare held n 34 ((List.drop 4 [c0, c1, c2, c3, c4]).take (Tryz.prog.cellsOf 34)) = some y ∧ WOk Tryz.prog 34 y.1 := hf 4 _ rfl
  rw [z34] at f4
  exact ⟨n, c0, c1, c2, c3, c4, rfl, f0, f1, f2, f3, f4⟩
theorem rdF41 (h : DataW.trod enc Tryz.prog w base spare held fuel 41 cs = some x) (hW : WOk Tryz.prog 41 x.1) : ∃ n c0 c1 c2, cs = [c0, c1, c2] ∧ (∃ y, DataW.trod enc Tryz.prog w base spare held n 9 [c0] = some y ∧ WOk Tryz.prog 9 y.1) ∧ (∃ y, DataW.trod enc Tryz.prog w base spare held n 3 [c1] = some y ∧ WOk Tryz.prog 3 y.1) ∧ (∃ y, DataW.trod enc Tryz.prog w base spare held n 3 [c2] = some y ∧ WOk Tryz.prog 3 y.1) := by
  have z3 : Tryz.prog.cellsOf 3 = 1 := by kernel_rfl
  have z9 : Tryz.prog.cellsOf 9 = 1 := by kernel_rfl
  obtain ⟨hl, n, hf⟩ := rdw_fields Tryz.underlying41 h hW
  have hz : Tryz.prog.cellsOf 41 = 3 := by kernel_rfl
  rw [hz] at hl
  obtain ⟨c0, c1, c2, rfl⟩ := three_of hl
  have f0 : ∃ y, DataW.trod enc Tryz.prog w base spare held n 9 ((List.drop 0 [c0, c1, c2]).take (Tryz.prog.cellsOf 9)) = some y ∧ WOk Tryz.prog 9 y.1 := hf 0 _ rfl
  rw [z9] at f0
  have f1 : ∃ y, DataW.trod enc Tryz.prog w base spare held n 3 ((List.drop 1 [c0, c1, c2]).take (Tryz.prog.cellsOf 3)) = some y ∧ WOk Tryz.prog 3 y.1 := hf 1 _ rfl
  rw [z3] at f1
  have f2 : ∃ y, DataW.trod enc Tryz.prog w base spare held n 3 ((List.drop 2 [c0, c1, c2]).take (Tryz.prog.cellsOf 3)) = some y ∧ WOk Tryz.prog 3 y.1 := hf 2 _ rfl
  rw [z3] at f2
  exact ⟨n, c0, c1, c2, rfl, f0, f1, f2⟩
theorem rdF63 (h : DataW.trod enc Tryz.prog w base spare held fuel 63 cs = some x) : ∃ n c0 c1, cs = [c0, c1] ∧ (∃ y, DataW.trod enc Tryz.prog w base spare held n 3 [c0] = some y) ∧ (∃ y, DataW.trod enc Tryz.prog w base spare held n 3 [c1] = some y) := by
  have z3 : Tryz.prog.cellsOf 3 = 1 := by kernel_rfl
  obtain ⟨hl, n, hf⟩ := rd_elems Tryz.underlying63 z3 h
  have hz : Tryz.prog.cellsOf 63 = 2 := by kernel_rfl
  rw [hz] at hl
  obtain ⟨c0, c1, rfl⟩ := two_of hl
  have f0 : ∃ y, DataW.trod enc Tryz.prog w base spare held n 3 [c0] = some y := hf 0 (by omega)
  have f1 : ∃ y, DataW.trod enc Tryz.prog w base spare held n 3 [c1] = some y := hf 1 (by omega)
  exact ⟨n, c0, c1, rfl, f0, f1⟩
theorem rdF70 (h : DataW.trod enc Tryz.prog w base spare held fuel 70 cs = some x) (hW : WOk Tryz.prog 70 x.1) : ∃ n c0 c1 c2 c3 c4, cs = [c0, c1, c2, c3, c4] ∧ (∃ y, DataW.trod enc Tryz.prog w base spare held n 3 [c0] = some y ∧ WOk Tryz.prog 3 y.1) ∧ (∃ y, DataW.trod enc Tryz.prog w base spare held n 3 [c1] = some y ∧ WOk Tryz.prog 3 y.1) ∧ (∃ y, DataW.trod enc Tryz.prog w base spare held n 3 [c2] = some y ∧ WOk Tryz.prog 3 y.1) ∧ (∃ y, DataW.trod enc Tryz.prog w base spare held n 3 [c3] = some y ∧ WOk Tryz.prog 3 y.1) ∧ (∃ y, DataW.trod enc Tryz.prog w base spare held n 3 [c4] = some y ∧ WOk Tryz.prog 3 y.1) := by
  have z3 : Tryz.prog.cellsOf 3 = 1 := by kernel_rfl
  obtain ⟨hl, n, hf⟩ := rdw_fields Tryz.underlying70 h hW
  have hz : Tryz.prog.cellsOf 70 = 5 := by kernel_rfl
  rw [hz] at hl
  obtain ⟨c0, c1, c2, c3, c4, rfl⟩ := five_of hl
  have f0 : ∃ y, DataW.trod enc Tryz.prog w base spare held n 3 ((List.drop 0 [c0, c1, c2, c3, c4]).take (Tryz.prog.cellsOf 3)) = some y ∧ WOk Tryz.prog 3 y.1 := hf 0 _ rfl
  rw [z3] at f0
  have f1 : ∃ y, DataW.trod enc Tryz.prog w base spare held n 3 ((List.drop 1 [c0, c1, c2, c3, c4]).take (Tryz.prog.cellsOf 3)) = some y ∧ WOk Tryz.prog 3 y.1 := hf 1 _ rfl
  rw [z3] at f1
  have f2 : ∃ y, DataW.trod enc Tryz.prog w base spare held n 3 ((List.drop 2 [c0, c1, c2, c3, c4]).take (Tryz.prog.cellsOf 3)) = some y ∧ WOk Tryz.prog 3 y.1 := hf 2 _ rfl
  rw [z3] at f2
  have f3 : ∃ y, DataW.trod enc Tryz.prog w base spare held n 3 ((List.drop 3 [c0, c1, c2, c3, c4]).take (Tryz.prog.cellsOf 3)) = some y ∧ WOk Tryz.prog 3 y.1 := hf 3 _ rfl
  rw [z3] at f3
  have f4 : ∃ y, DataW.trod enc Tryz.prog w base spare held n 3 ((List.drop 4 [c0, c1, c2, c3, c4]).take (Tryz.prog.cellsOf 3)) = some y ∧ WOk Tryz.prog 3 y.1 := hf 4 _ rfl
  rw [z3] at f4
  exact ⟨n, c0, c1, c2, c3, c4, rfl, f0, f1, f2, f3, f4⟩
end
end Go.Proofs.YtmoilbakmlekbaaGreatDoor

/- part Rd1 -/
namespace Go.Proofs.YtmoilbakmlekbaaGreatDoor
open Go Bx
theorem rd_Ints : RdW Tryz.prog 34 (fun w cs (l : List Int) => ∃ v, cs = [v] ∧ Sl w 1 RInt v l ∧ l.length * 8 ≤ 140737488351232) := rdw_slice (Rd.w (rd_int Tryz.underlying3)) (by kernel_rfl) (by decide) Tryz.underlying34 (by kernel_rfl)
theorem rd_Row : RdW Tryz.prog 34 RRow := fun H enc w base spare held fuel cs x h hW => by obtain ⟨a, v, e, i, -⟩ := rd_Ints H enc w base spare held fuel cs x h hW; exact ⟨a, v, e, i⟩
theorem rd_Rows : RdW Tryz.prog 24 (fun w cs (l : List (List Int)) => ∃ v, cs = [v] ∧ Sl w 1 RRow v l ∧ l.length * 24 ≤ 140737488351232) := rdw_slice rd_Row (by kernel_rfl) (by decide) Tryz.underlying24 (by kernel_rfl)
theorem rd_Chan : RdW Tryz.prog 41 RChan := by
  intro H enc w base spare held fuel cs x h hW
  obtain ⟨n, c0, c1, c2, rfl, ⟨y0, f0, k0⟩, ⟨y1, f1, k1⟩, ⟨y2, f2, k2⟩⟩ := rdF41 h hW
  obtain ⟨a0, g0⟩ := (Rd.w (rd_str Tryz.underlying9)) _ _ _ _ _ _ _ _ _ f0 k0
  obtain ⟨a1, g1⟩ := (Rd.w (rd_int Tryz.underlying3)) _ _ _ _ _ _ _ _ _ f1 k1
  obtain ⟨a2, g2⟩ := (Rd.w (rd_int Tryz.underlying3)) _ _ _ _ _ _ _ _ _ f2 k2
  obtain ⟨e0, i0⟩ := g0; obtain ⟨e1, i1⟩ := g1; obtain ⟨e2, i2⟩ := g2; cases e0; cases e1; cases e2; exact ⟨⟨a0, a1, a2⟩, rfl, i0, i1, i2⟩
theorem rd_Chans : RdW Tryz.prog 22 (fun w cs (l : List Chan) => ∃ v, cs = [v] ∧ Sl w 3 RChan v l ∧ l.length * 32 ≤ 140737488351232) := rdw_slice rd_Chan (by kernel_rfl) (by decide) Tryz.underlying22 (by kernel_rfl)
theorem rd_Town : RdW Tryz.prog 36 RTown := by
  intro H enc w base spare held fuel cs x h hW
  obtain ⟨n, c0, c1, c2, c3, c4, rfl, ⟨y0, f0, k0⟩, ⟨y1, f1, k1⟩, ⟨y2, f2, k2⟩, ⟨y3, f3, k3⟩, ⟨y4, f4, k4⟩⟩ := rdF36 h hW
  obtain ⟨a0, g0⟩ := (Rd.w (rd_str Tryz.underlying9)) _ _ _ _ _ _ _ _ _ f0 k0
  obtain ⟨a1, g1⟩ := (Rd.w (rd_int Tryz.underlying3)) _ _ _ _ _ _ _ _ _ f1 k1
  obtain ⟨a2, g2⟩ := (Rd.w (rd_int Tryz.underlying3)) _ _ _ _ _ _ _ _ _ f2 k2
  obtain ⟨a3, g3⟩ := (Rd.w (rd_int Tryz.underlying3)) _ _ _ _ _ _ _ _ _ f3 k3
  obtain ⟨a4, g4⟩ := rd_Ints _ _ _ _ _ _ _ _ _ f4 k4
  obtain ⟨e0, i0⟩ := g0; obtain ⟨e1, i1⟩ := g1; obtain ⟨e2, i2⟩ := g2; obtain ⟨e3, i3⟩ := g3; obtain ⟨v4, e4, i4, r4⟩ := g4; cases e0; cases e1; cases e2; cases e3; cases e4; exact ⟨⟨a0, a1, a2, a3, a4⟩, _, rfl, i0, i1, i2, i3, i4, r4⟩
theorem rd_Towns : RdW Tryz.prog 23 (fun w cs (l : List Town) => ∃ v, cs = [v] ∧ Sl w 5 RTown v l ∧ l.length * 64 ≤ 140737488351232) := rdw_slice rd_Town (by kernel_rfl) (by decide) Tryz.underlying23 (by kernel_rfl)
theorem rd_Task : RdW Tryz.prog 26 RTask := by
  intro H enc w base spare held fuel cs x h hW
  obtain ⟨n, c0, c1, c2, c3, rfl, ⟨y0, f0, k0⟩, ⟨y1, f1, k1⟩, ⟨y2, f2, k2⟩, ⟨y3, f3, k3⟩⟩ := rdF26 h hW
  obtain ⟨a0, g0⟩ := (Rd.w (rd_int Tryz.underlying3)) _ _ _ _ _ _ _ _ _ f0 k0
  obtain ⟨a1, g1⟩ := rd_Chans _ _ _ _ _ _ _ _ _ f1 k1
  obtain ⟨a2, g2⟩ := rd_Towns _ _ _ _ _ _ _ _ _ f2 k2
  obtain ⟨a3, g3⟩ := rd_Rows _ _ _ _ _ _ _ _ _ f3 k3
  obtain ⟨e0, i0⟩ := g0; obtain ⟨v1, e1, i1, r1⟩ := g1; obtain ⟨v2, e2, i2, r2⟩ := g2; obtain ⟨v3, e3, i3, r3⟩ := g3; cases e0; cases e1; cases e2; cases e3; exact ⟨⟨a0, a1, a2, a3⟩, _, _, _, rfl, i0, i1, i2, i3⟩
theorem rd_Msg : RdW Tryz.prog 70 RMsg := by
  intro H enc w base spare held fuel cs x h hW
  obtain ⟨n, c0, c1, c2, c3, c4, rfl, ⟨y0, f0, k0⟩, ⟨y1, f1, k1⟩, ⟨y2, f2, k2⟩, ⟨y3, f3, k3⟩, ⟨y4, f4, k4⟩⟩ := rdF70 h hW
  obtain ⟨a0, g0⟩ := (Rd.w (rd_int Tryz.underlying3)) _ _ _ _ _ _ _ _ _ f0 k0
  obtain ⟨a1, g1⟩ := (Rd.w (rd_int Tryz.underlying3)) _ _ _ _ _ _ _ _ _ f1 k1
  obtain ⟨a2, g2⟩ := (Rd.w (rd_int Tryz.underlying3)) _ _ _ _ _ _ _ _ _ f2 k2
  obtain ⟨a3, g3⟩ := (Rd.w (rd_int Tryz.underlying3)) _ _ _ _ _ _ _ _ _ f3 k3
  obtain ⟨a4, g4⟩ := (Rd.w (rd_int Tryz.underlying3)) _ _ _ _ _ _ _ _ _ f4 k4
  obtain ⟨e0, i0⟩ := g0; obtain ⟨e1, i1⟩ := g1; obtain ⟨e2, i2⟩ := g2; obtain ⟨e3, i3⟩ := g3; obtain ⟨e4, i4⟩ := g4; cases e0; cases e1; cases e2; cases e3; cases e4; exact ⟨⟨a0, a1, a2, a3, a4⟩, rfl, i0, i1, i2, i3, i4⟩
theorem rd_Msgs : RdW Tryz.prog 62 (fun w cs (l : List Msg) => ∃ v, cs = [v] ∧ Sl w 5 RMsg v l ∧ l.length * 40 ≤ 140737488351232) := rdw_slice rd_Msg (by kernel_rfl) (by decide) Tryz.underlying62 (by kernel_rfl)
end Go.Proofs.YtmoilbakmlekbaaGreatDoor

/- part Rd2 -/
namespace Go.Proofs.YtmoilbakmlekbaaGreatDoor
open Go Bx
theorem rd_TwoI : RdW Tryz.prog 63 RTwoI := by
  intro H enc w base spare held fuel cs x h hW
  obtain ⟨n, c0, c1, rfl, ⟨y0, f0⟩, ⟨y1, f1⟩⟩ := rdF63 h
  obtain ⟨a0, e0, i0⟩ := rd_int Tryz.underlying3 _ _ _ _ _ _ _ _ _ f0
  obtain ⟨a1, e1, i1⟩ := rd_int Tryz.underlying3 _ _ _ _ _ _ _ _ _ f1
  cases e0; cases e1; exact ⟨(a0, a1), rfl, i0, i1⟩
end Go.Proofs.YtmoilbakmlekbaaGreatDoor

/- part Laid -/
namespace Go.Proofs.YtmoilbakmlekbaaGreatDoor
open Go Bx Go.ChangeShapes Go.WideShapes Go.RowKit
theorem laidEt : Tryz.prog.globalNamed "errors.errorType" = some 0 := by kernel_rfl
theorem laidRt : (Tryz.prog.cutTypes.find? (·.1 == "internal/reflectlite.rtype")).map (·.2) = some 217 := by kernel_rfl
theorem laidOne : ((List.range 309).filter fun t => Tryz.prog.rowNamed t [101, 114, 114, 111, 114]) = [120] := by kernel_rfl
theorem laidSize : Tryz.prog.types.size = 309 := by kernel_rfl
theorem glb_of_laid {W : World} (h : laidMetH Tryz.prog [("errors.errorType", Rows.laid_errors_errorType)] W) : Glb W := by
  have h' : laidMet Tryz.prog [] W ∧ handlesMet Tryz.prog [("errors.errorType", Rows.laid_errors_errorType)] W := h
  obtain ⟨name, u, ty, e1, e2, e3, e4, e5⟩ := h'.2 _ (List.mem_singleton.2 rfl)
  have en : name = [101, 114, 114, 111, 114] := (Option.some.inj e1).symm
  subst en
  obtain rfl := Option.some.inj (laidRt.symm.trans e2)
  have hm : ty ∈ (List.range 309).filter fun t => Tryz.prog.rowNamed t [101, 114, 114, 111, 114] := List.mem_filter.2 ⟨List.mem_range.2 (by rw [← laidSize]; exact e3), e4⟩
  rw [laidOne] at hm
  obtain rfl := List.mem_singleton.1 hm
  have hh : typeHandle Tryz.prog 120 = .pointer (some ⟨1, 120, none⟩) := by kernel_rfl
  rw [hh] at e5
  simpa [Glb] using World.var?_cell laidEt e5 0
noncomputable def laidWorld (os : Os) : World :=
  let w0 := World.holding Tryz.prog os ⟨#[], #[], []⟩
  { w0 with heap := w0.heap.modify 0 fun
      | .cells _ t frozen => .cells #[.iface 217 (.agg #[.pointer (some ⟨1, 120, none⟩)])] t frozen
      | o => o }
theorem laidWorld_met (os : Os) (args : Array Value) : laidMetH Tryz.prog [("errors.errorType", Rows.laid_errors_errorType)] ((laidWorld os).forCall (fun _ _ => 0) ⟨#[], args, []⟩).memory :=
  laidMetH_of_parts (laidMet_nil _ _) (by kernel_rfl)
end Go.Proofs.YtmoilbakmlekbaaGreatDoor

