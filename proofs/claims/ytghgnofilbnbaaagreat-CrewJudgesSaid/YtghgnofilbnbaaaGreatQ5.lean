/- Merged texts, part 5. -/
import Derived.Test.YtghgnofilbnbaaaGreatQ4
set_option linter.all false
/- part Ck37 -/
namespace Go.Proofs.YtghgnofilbnbaaaGreat
open Go Bx
/-- barrage/barrageref10.minute -/
theorem c_rminute {m : Int} {w0 : World} : CV Tryz.prog 32 #[.int .i64 m] w0 (.bool (inB m 0 100000)) := by
  refine enter Tryz.func32 rfl Tryz.ntmps32 rfl ?_
  have hS := St.start w0
  refine seq ?_
  refine region ?_
  refine sv (yAsg rfl) ?_
  refine nil ?_
  show Code.wp _ _ _ _ _
  refine seq ?_
  refine region ?_
  refine sv (yMove rfl) ?_
  refine scall Tryz.call48 (.cons rfl (.cons rfl (.cons rfl .nil))) c_in ?_
  rintro _ w ⟨rfl, hE⟩; replace hS := hS.step hE; clear hE
  refine sv (yAsg rfl) ?_
  refine nil ?_
  show Code.wp _ _ _ _ _
  refine wp_ret ?_
  exact retV (res1 rfl rfl) hS.ext
/-- barrage/barrageref10.has -/
theorem c_has {l : List Int} {v : Value} {n0 : Int} {w0 : World} (hl : Sl w0 1 RInt v l) : CV Tryz.prog 33 #[v, .int .i64 n0] w0 (.bool (l.any fun y => decide (y = n0))) := by
  obtain ⟨al, cl, rfl, hlcap, hlmx, hel⟩ := id hl
  refine enter Tryz.func33 rfl Tryz.ntmps33 rfl ?_
  have hS := St.start w0
  refine seq ?_
  refine region ?_
  refine sv (yAsg rfl) ?_
  refine nil ?_
  show Code.wp _ _ _ _ _
  refine seq ?_
  refine seq ?_
  refine region ?_
  refine sv (yAsg rfl) ?_
  refine nil ?_
  show Code.wp _ _ _ _ _
  refine block ?_
  refine loop (fun f w zz => ∃ (k : Nat), f 0 = .slice al l.length cl ∧ f 1 = .int .i64 n0 ∧ f 5 = .int .i64 (k : Int) ∧ StX [] w0 w [] ∧ (k ≤ l.length) ∧ ((l.take k).any (fun y => decide (y = n0)) = false) ∧ zz = l.length - k) _ ⟨_, rfl, 0, rfl, rfl, rfl, hS, (Nat.zero_le _), (rfl), rfl⟩ ?_
  clear hS
  rintro f w _ ⟨k, h0, h1, h5, hS, hk, hN, rfl⟩
  refine seq ?_
  refine seq ?_
  refine region ?_
  refine sv (yMove h5) ?_
  refine sv (yMove h0) ?_
  refine sv (yLen rfl Tryz.underlying37) ?_
  refine sv (yLss rfl rfl) ?_
  refine nil ?_
  show Code.wp _ _ _ _ _
  refine cond rfl (fun c9 => ?_) (fun c9 => ?_)
  ·
    simp only [Bool.and_eq_true, Bool.or_eq_true, Bool.and_eq_false_iff, Bool.or_eq_false_iff, decide_eq_true_eq, decide_eq_false_iff_not, Bool.not_eq_true, Bool.not_eq_false, Bool.not_not, Bool.not_eq_eq_eq_not, Bool.not_true, Bool.not_false, Bool.false_eq_true, Bool.true_eq_false, ne_eq, Decidable.not_not, not_false_eq_true, not_true_eq_false] at c9
    refine skip ?_
    show Code.wp _ _ _ _ _
    refine seq ?_
    refine block ?_
    refine seq ?_
    refine region ?_
    obtain ⟨x, hxq, hdq⟩ := drop_of (l := l) (k := k) (by omega)
    obtain ⟨bq, oq, csq, haq, hlenq, hcsq, hRq⟩ := hel (k) (by omega)
    obtain rfl : x = l[k] := (List.getElem?_eq_some_iff.1 hxq).2.symm
    generalize l[k] = x at hxq hdq hRq
    obtain ⟨rfl, hxi⟩ := hRq
    refine sv (yMove h0) ?_
    refine sv (yMove h5) ?_
    refine sv (yIxa rfl haq rfl Tryz.runUnderlying37 Tryz.sizeOf3 (by omega) (by omega)) ?_
    refine sv (yLd rfl Tryz.isAgg3 ((hcsq.ext hS.ext).one)) ?_
    refine sv (yMove h1) ?_
    refine sv (yEql rfl rfl) ?_
    refine nil ?_
    show Code.wp _ _ _ _ _
    refine cond rfl (fun c17 => ?_) (fun c17 => ?_)
    ·
      simp only [Bool.and_eq_true, Bool.or_eq_true, Bool.and_eq_false_iff, Bool.or_eq_false_iff, decide_eq_true_eq, decide_eq_false_iff_not, Bool.not_eq_true, Bool.not_eq_false, Bool.not_not, Bool.not_eq_eq_eq_not, Bool.not_true, Bool.not_false, Bool.false_eq_true, Bool.true_eq_false, ne_eq, Decidable.not_not, not_false_eq_true, not_true_eq_false] at c17
      refine seq ?_
      refine region ?_
      refine sv (yAsg rfl) ?_
      refine nil ?_
      show Code.wp _ _ _ _ _
      refine wp_ret (blockR (thenR (thenR (blockR (thenR ?_)))))
      exact retV (res1 rfl (eqB (any_mem.2 (by rw [← c17]; exact List.mem_of_getElem? hxq)))) hS.ext
    ·
      simp only [Bool.and_eq_true, Bool.or_eq_true, Bool.and_eq_false_iff, Bool.or_eq_false_iff, decide_eq_true_eq, decide_eq_false_iff_not, Bool.not_eq_true, Bool.not_eq_false, Bool.not_not, Bool.not_eq_eq_eq_not, Bool.not_true, Bool.not_false, Bool.false_eq_true, Bool.true_eq_false, ne_eq, Decidable.not_not, not_false_eq_true, not_true_eq_false] at c17
      refine skip ?_
      show Code.wp _ _ _ _ _
      refine region ?_
      refine sv (yMove h5) ?_
      refine sv (yAdd rfl rfl ⟨by omega, by omega⟩) ?_
      refine sv (yAsg rfl) ?_
      refine nil ?_
      exact ⟨_, _, rfl, ⟨k + 1, h0, h1, rfl, hS, (by omega), (by rw [hasB_take hxq, hN, decide_eq_false c17]; rfl), rfl⟩, by omega⟩
  ·
    simp only [Bool.and_eq_true, Bool.or_eq_true, Bool.and_eq_false_iff, Bool.or_eq_false_iff, decide_eq_true_eq, decide_eq_false_iff_not, Bool.not_eq_true, Bool.not_eq_false, Bool.not_not, Bool.not_eq_eq_eq_not, Bool.not_true, Bool.not_false, Bool.false_eq_true, Bool.true_eq_false, ne_eq, Decidable.not_not, not_false_eq_true, not_true_eq_false] at c9
    refine exit ?_
    show Code.wp _ _ _ _ _
    refine seq ?_
    refine region ?_
    refine sv (yAsg rfl) ?_
    refine nil ?_
    show Code.wp _ _ _ _ _
    obtain rfl : k = l.length := by omega
    rw [List.take_length] at hN
    refine wp_ret ?_
    exact retV (res1 rfl (eqB hN)) hS.ext
set_option maxHeartbeats 1000000 in
/-- barrage/barrageref10.operator -/
theorem c_roper {c : Crew} {cs : List Value} {i : Nat} {x : Opr} {w0 : World} (h : RCrew w0 cs c) (hx : c.ops[i]? = some x) : CV Tryz.prog 68 #[.agg cs.toArray, .int .i64 (i : Int)] w0 (.int .i64 (errR (·.name) oprE c.ops i x)) := by
  obtain ⟨ov, kv, nv, rfl, hso, hsk, hsn, hrm⟩ := id h
  obtain ⟨a, cap, rfl, hcap, hmx, hel⟩ := id hso
  have hil := (List.getElem?_eq_some_iff.1 hx).1
  obtain ⟨y, hxq, hdq⟩ := drop_of (l := c.ops) (k := i) (by omega)
  obtain ⟨bq, oq, csq, haq, hlenq, hcsq, hRq⟩ := hel (i) (by omega)
  obtain rfl : y = c.ops[i] := (List.getElem?_eq_some_iff.1 hxq).2.symm
  generalize c.ops[i] = y at hxq hdq hRq
  have hR := hRq
  obtain rfl : x = y := Option.some.inj (hx.symm.trans hxq)
  obtain ⟨dv, rfl, hnm, hgr, hsd, -⟩ := id hR
  obtain ⟨ad, cd, rfl, hdcap, hdmx, held⟩ := id hsd
  refine enter Tryz.func68 rfl Tryz.ntmps68 rfl ?_
  have hS := St.start w0
  refine seq ?_
  refine region ?_
  refine sbox hS rfl rfl ?_; clear hS; intro b2 w hS
  refine sv (yAsg rfl) ?_
  refine nil ?_
  show Code.wp _ _ _ _ _
  refine seq ?_
  refine region ?_
  refine sv (fa26_0 rfl) ?_
  refine sv (yLdB rfl Tryz.isAgg22 (hS.at _) rfl) ?_
  refine sv (yMove rfl) ?_
  refine sv (yIxa rfl haq rfl Tryz.runUnderlying22 Tryz.sizeOf97 (by omega) (by omega)) ?_
  refine sv (yLdA rfl Tryz.isAgg97 Tryz.sizeOf97 (hcsq.ext hS.ext) rfl) ?_
  refine salloc hS Tryz.zeroValue97 rfl ?_; clear hS; intro b5 w hS
  refine sst hS rfl rfl Tryz.sizeOf97 rfl rfl rfl rfl ?_; clear hS; intro w hS
  refine nil ?_
  show Code.wp _ _ _ _ _
  refine seq ?_
  refine seq ?_
  refine region ?_
  replace hS : StX [] w0 w (blk b5 [.string x.name, .int .i64 x.grade, .slice ad x.duty.length cd] 97 :: blk b2 [.slice a c.ops.length cap, kv, nv] 26 :: []) := hS
  refine sv (fa97_0 rfl) ?_
  refine sv (yLdB rfl Tryz.isAgg9 (hS.at _) rfl) ?_
  refine scall Tryz.call47 (.cons rfl .nil) (c_rName hnm) ?_
  rintro _ w ⟨rfl, hE⟩; replace hS := hS.step hE; clear hE
  refine sv (yNot rfl) ?_
  refine nil ?_
  show Code.wp _ _ _ _ _
  refine cond rfl (fun c16 => ?_) (fun c16 => ?_)
  ·
    refine seq ?_
    refine region ?_
    refine sv (yAsg rfl) ?_
    refine nil ?_
    show Code.wp _ _ _ _ _
    refine wp_ret (thenR ?_)
    exact retV (res1 rfl (eqI (errR_form c16))) hS.ext
  ·
    refine skip ?_
    show Code.wp _ _ _ _ _
    refine seq ?_
    refine seq ?_
    refine region ?_
    refine sv (yAsg rfl) ?_
    refine nil ?_
    show Code.wp _ _ _ _ _
    refine block ?_
    refine loop (fun f w zz => ∃ (k : Nat), f 1 = .int .i64 (i : Int) ∧ f 2 = .pointer (some ⟨b2, 0, none⟩) ∧ f 5 = .pointer (some ⟨b5, 0, none⟩) ∧ f 6 = .int .i64 (k : Int) ∧ StX [] w0 w [blk b5 [.string x.name, .int .i64 x.grade, .slice ad x.duty.length cd] 97, blk b2 [.slice a c.ops.length cap, kv, nv] 26] ∧ (k ≤ i) ∧ (∀ q, q < k → ∀ u : Opr, c.ops[q]? = some u → u.name ≠ x.name) ∧ zz = i - k) _ ⟨_, rfl, 0, rfl, rfl, rfl, rfl, hS, (Nat.zero_le _), (fun q hq => absurd hq (Nat.not_lt_zero q)), rfl⟩ ?_
    clear hS
    rintro f w _ ⟨k, h1, h2, h5, h6, hS, hk, hN, rfl⟩
    refine seq ?_
    refine seq ?_
    refine region ?_
    refine sv (yMove h6) ?_
    refine sv (yMove h1) ?_
    refine sv (yLss rfl rfl) ?_
    refine nil ?_
    show Code.wp _ _ _ _ _
    refine cond rfl (fun c19 => ?_) (fun c19 => ?_)
    ·
      simp only [Bool.and_eq_true, Bool.or_eq_true, Bool.and_eq_false_iff, Bool.or_eq_false_iff, decide_eq_true_eq, decide_eq_false_iff_not, Bool.not_eq_true, Bool.not_eq_false, Bool.not_not, Bool.not_eq_eq_eq_not, Bool.not_true, Bool.not_false, Bool.false_eq_true, Bool.true_eq_false, ne_eq, Decidable.not_not, not_false_eq_true, not_true_eq_false] at c19
      refine skip ?_
      show Code.wp _ _ _ _ _
      refine seq ?_
      refine block ?_
      refine seq ?_
      refine region_draw mixed (by kernel_rfl) hS ?_
      obtain ⟨u, hxu, hdu⟩ := drop_of (l := c.ops) (k := k) (by omega)
      obtain ⟨bu, ou, csu, hau, hlenu, hcsu, hRu⟩ := hel (k) (by omega)
      obtain rfl : u = c.ops[k] := (List.getElem?_eq_some_iff.1 hxu).2.symm
      generalize c.ops[k] = u at hxu hdu hRu
      have hRv := hRu
      obtain ⟨duv, rfl, -⟩ := id hRv
      refine qv (fun w hS => (fa26_0 h2)) ?_
      refine qv (fun w hS => (yLdB rfl Tryz.isAgg22 (hS.at _) rfl)) ?_
      refine qv (fun w hS => (yMove h6)) ?_
      refine qv (fun w hS => (yIxa rfl hau rfl Tryz.runUnderlying22 Tryz.sizeOf97 (by omega) (by omega))) ?_
      refine qv (fun w hS => (fa97_0 rfl)) ?_
      refine qv (fun w hS => (yLd rfl Tryz.isAgg9 ((hcsu.ext hS.ext).at (j := 0) rfl))) ?_
      refine qv (fun w hS => (fa97_0 h5)) ?_
      refine qv (fun w hS => (yLdB rfl Tryz.isAgg9 (hS.at _) rfl)) ?_
      refine qv (fun w hS => (ySEq rfl rfl)) ?_
      clear hS; refine qnil (fun w hS => ?_)
      show Code.wp _ _ _ _ _
      refine cond rfl (fun c30 => ?_) (fun c30 => ?_)
      ·
        simp only [Bool.and_eq_true, Bool.or_eq_true, Bool.and_eq_false_iff, Bool.or_eq_false_iff, decide_eq_true_eq, decide_eq_false_iff_not, Bool.not_eq_true, Bool.not_eq_false, Bool.not_not, Bool.not_eq_eq_eq_not, Bool.not_true, Bool.not_false, Bool.false_eq_true, Bool.true_eq_false, ne_eq, Decidable.not_not, not_false_eq_true, not_true_eq_false] at c30
        refine seq ?_
        refine region ?_
        refine sv (yAsg rfl) ?_
        refine nil ?_
        show Code.wp _ _ _ _ _
        refine wp_ret (blockR (thenR (thenR (blockR (thenR ?_)))))
        exact retV (res1 rfl (eqI (errR_twice c16 hxu (by omega) c30))) hS.ext
      ·
        simp only [Bool.and_eq_true, Bool.or_eq_true, Bool.and_eq_false_iff, Bool.or_eq_false_iff, decide_eq_true_eq, decide_eq_false_iff_not, Bool.not_eq_true, Bool.not_eq_false, Bool.not_not, Bool.not_eq_eq_eq_not, Bool.not_true, Bool.not_false, Bool.false_eq_true, Bool.true_eq_false, ne_eq, Decidable.not_not, not_false_eq_true, not_true_eq_false] at c30
        refine skip ?_
        show Code.wp _ _ _ _ _
        refine region ?_
        refine sv (yMove h6) ?_
        refine sv (yAdd rfl rfl ⟨by omega, by omega⟩) ?_
        refine sv (yAsg rfl) ?_
        refine nil ?_
        exact ⟨_, _, rfl, ⟨k + 1, h1, h2, h5, rfl, hS, (by omega), (snoc hN (fun v hv => by cases Option.some.inj (hxu.symm.trans hv); exact c30)), rfl⟩, by omega⟩
    ·
      simp only [Bool.and_eq_true, Bool.or_eq_true, Bool.and_eq_false_iff, Bool.or_eq_false_iff, decide_eq_true_eq, decide_eq_false_iff_not, Bool.not_eq_true, Bool.not_eq_false, Bool.not_not, Bool.not_eq_eq_eq_not, Bool.not_true, Bool.not_false, Bool.false_eq_true, Bool.true_eq_false, ne_eq, Decidable.not_not, not_false_eq_true, not_true_eq_false] at c19
      have hne : errR (·.name) oprE c.ops i x = oprE x := errR_rest c16 (fun q hq => hN q (by omega))
      refine exit ?_
      show Code.wp _ _ _ _ _
      refine seq ?_
      refine seq ?_
      refine region ?_
      refine sv (fa97_1 h5) ?_
      refine sv (yLdB rfl Tryz.isAgg3 (hS.at _) rfl) ?_
      refine scall Tryz.call48 (.cons rfl (.cons rfl (.cons rfl .nil))) c_in ?_
      rintro _ w ⟨rfl, hE⟩; replace hS := hS.step hE; clear hE
      refine sv (yNot rfl) ?_
      refine nil ?_
      show Code.wp _ _ _ _ _
      refine cond rfl (fun c34 => ?_) (fun c34 => ?_)
      ·
        refine seq ?_
        refine region ?_
        refine sv (yAsg rfl) ?_
        refine nil ?_
        show Code.wp _ _ _ _ _
        refine wp_ret (thenR ?_)
        exact retV (res1 rfl (eqI (hne.trans (oprE_1 c34)))) hS.ext
      ·
        refine skip ?_
        show Code.wp _ _ _ _ _
        refine seq ?_
        refine seq ?_
        refine region ?_
        refine sv (fa97_2 h5) ?_
        refine sv (yLdB rfl Tryz.isAgg95 (hS.at _) rfl) ?_
        refine sv (yLen rfl Tryz.underlying95) ?_
        refine sv (yGtr rfl rfl) ?_
        refine nil ?_
        show Code.wp _ _ _ _ _
        refine cond rfl (fun c38 => ?_) (fun c38 => ?_)
        ·
          simp only [Bool.and_eq_true, Bool.or_eq_true, Bool.and_eq_false_iff, Bool.or_eq_false_iff, decide_eq_true_eq, decide_eq_false_iff_not, Bool.not_eq_true, Bool.not_eq_false, Bool.not_not, Bool.not_eq_eq_eq_not, Bool.not_true, Bool.not_false, Bool.false_eq_true, Bool.true_eq_false, ne_eq, Decidable.not_not, not_false_eq_true, not_true_eq_false] at c38
          refine seq ?_
          refine region ?_
          refine sv (yAsg rfl) ?_
          refine nil ?_
          show Code.wp _ _ _ _ _
          refine wp_ret (thenR ?_)
          exact retV (res1 rfl (eqI (hne.trans (oprE_2 c34 c38)))) hS.ext
        ·
          simp only [Bool.and_eq_true, Bool.or_eq_true, Bool.and_eq_false_iff, Bool.or_eq_false_iff, decide_eq_true_eq, decide_eq_false_iff_not, Bool.not_eq_true, Bool.not_eq_false, Bool.not_not, Bool.not_eq_eq_eq_not, Bool.not_true, Bool.not_false, Bool.false_eq_true, Bool.true_eq_false, ne_eq, Decidable.not_not, not_false_eq_true, not_true_eq_false] at c38
          refine skip ?_
          show Code.wp _ _ _ _ _
          refine seq ?_
          refine seq ?_
          refine region ?_
          refine sv (yAsg rfl) ?_
          refine nil ?_
          show Code.wp _ _ _ _ _
          refine block ?_
          refine loop (fun f w zz => ∃ (j : Nat), f 5 = .pointer (some ⟨b5, 0, none⟩) ∧ f 7 = .int .i64 (j : Int) ∧ StX [] w0 w [blk b5 [.string x.name, .int .i64 x.grade, .slice ad x.duty.length cd] 97, blk b2 [.slice a c.ops.length cap, kv, nv] 26] ∧ (j ≤ x.duty.length) ∧ (∀ q, q < j → ∀ s, x.duty[q]? = some s → spnBad s = false) ∧ zz = x.duty.length - j) _ ⟨_, rfl, 0, h5, rfl, hS, (Nat.zero_le _), (fun q hq => absurd hq (Nat.not_lt_zero q)), rfl⟩ ?_
          clear hS
          rintro f w _ ⟨j, h5, h7, hS, hj, hM, rfl⟩
          refine seq ?_
          refine seq ?_
          refine region ?_
          refine sv (yMove h7) ?_
          refine sv (fa97_2 h5) ?_
          refine sv (yLdB rfl Tryz.isAgg95 (hS.at _) rfl) ?_
          refine sv (yLen rfl Tryz.underlying95) ?_
          refine sv (yLss rfl rfl) ?_
          refine nil ?_
          show Code.wp _ _ _ _ _
          refine cond rfl (fun c43 => ?_) (fun c43 => ?_)
          ·
            simp only [Bool.and_eq_true, Bool.or_eq_true, Bool.and_eq_false_iff, Bool.or_eq_false_iff, decide_eq_true_eq, decide_eq_false_iff_not, Bool.not_eq_true, Bool.not_eq_false, Bool.not_not, Bool.not_eq_eq_eq_not, Bool.not_true, Bool.not_false, Bool.false_eq_true, Bool.true_eq_false, ne_eq, Decidable.not_not, not_false_eq_true, not_true_eq_false] at c43
            refine skip ?_
            show Code.wp _ _ _ _ _
            refine seq ?_
            refine block ?_
            refine seq ?_
            refine region_draw mixed (by kernel_rfl) hS ?_
            obtain ⟨s, hxs, hds⟩ := drop_of (l := x.duty) (k := j) (by omega)
            obtain ⟨bs, os, css, has, hlens, hcss, hRs⟩ := held (j) (by omega)
            obtain rfl : s = x.duty[j] := (List.getElem?_eq_some_iff.1 hxs).2.symm
            generalize x.duty[j] = s at hxs hds hRs
            obtain ⟨rfl, hsi⟩ := hRs
            refine qv (fun w hS => (fa97_2 h5)) ?_
            refine qv (fun w hS => (yLdB rfl Tryz.isAgg95 (hS.at _) rfl)) ?_
            refine qv (fun w hS => (yMove h7)) ?_
            refine qv (fun w hS => (yIxa rfl has rfl Tryz.runUnderlying95 Tryz.sizeOf94 (by omega) (by omega))) ?_
            refine qv (fun w hS => (fa94_0 rfl)) ?_
            refine qv (fun w hS => (yLd rfl Tryz.isAgg3 ((hcss.ext hS.ext).at (j := 0) rfl))) ?_
            refine qcall Tryz.call32 (.cons rfl .nil) (fun w hS => c_rminute) ?_
            refine qv (fun w hS => (yNot rfl)) ?_
            refine qv (fun w hS => (yMove rfl)) ?_
            refine qg rfl rfl rfl (fun g w hS => (fa97_2 h5)) (fun v55 g55 => ?_)
            refine qg rfl rfl rfl (fun g w hS => (yLdB (g55.1 g) Tryz.isAgg95 (hS.at _) rfl)) (fun v56 g56 => ?_)
            refine qg rfl rfl rfl (fun g w hS => (yMove h7)) (fun v57 g57 => ?_)
            refine qg rfl rfl rfl (fun g w hS => (yIxa (g56.1 g) has (g57.1 g) Tryz.runUnderlying95 Tryz.sizeOf94 (by omega) (by omega))) (fun v58 g58 => ?_)
            refine qg rfl rfl rfl (fun g w hS => (fa94_1 (g58.1 g))) (fun v59 g59 => ?_)
            refine qg rfl rfl rfl (fun g w hS => (yLd (g59.1 g) Tryz.isAgg3 ((hcss.ext hS.ext).at (j := 1) rfl))) (fun v60 g60 => ?_)
            refine qg rfl rfl rfl (fun g w hS => (fa97_2 h5)) (fun v61 g61 => ?_)
            refine qg rfl rfl rfl (fun g w hS => (yLdB (g61.1 g) Tryz.isAgg95 (hS.at _) rfl)) (fun v62 g62 => ?_)
            refine qg rfl rfl rfl (fun g w hS => (yMove h7)) (fun v63 g63 => ?_)
            refine qg rfl rfl rfl (fun g w hS => (yIxa (g62.1 g) has (g63.1 g) Tryz.runUnderlying95 Tryz.sizeOf94 (by omega) (by omega))) (fun v64 g64 => ?_)
            refine qg rfl rfl rfl (fun g w hS => (fa94_0 (g64.1 g))) (fun v65 g65 => ?_)
            refine qg rfl rfl rfl (fun g w hS => (yLd (g65.1 g) Tryz.isAgg3 ((hcss.ext hS.ext).at (j := 0) rfl))) (fun v66 g66 => ?_)
            refine qgc rfl rfl rfl Tryz.call48 (fun g => (.cons (g60.1 g) (.cons (g66.1 g) (.cons rfl .nil)))) (fun g w hS => c_in) (fun v67 g67 => ?_)
            refine qg rfl rfl rfl (fun g w hS => (yNot (g67.1 g))) (fun v68 g68 => ?_)
            refine qv (fun w hS => (yOr rfl rfl (fun hB => (g68.1 hB)))) ?_
            clear hS; refine qnil (fun w hS => ?_)
            show Code.wp _ _ _ _ _
            refine cond rfl (fun c69 => ?_) (fun c69 => ?_)
            ·
              refine seq ?_
              refine region ?_
              refine sv (yAsg rfl) ?_
              refine nil ?_
              show Code.wp _ _ _ _ _
              refine wp_ret (blockR (thenR (thenR (blockR (thenR ?_)))))
              exact retV (res1 rfl (eqI (hne.trans (oprE_3 c34 c38 (List.mem_of_getElem? hxs) ((spnBad_in s).symm.trans c69))))) hS.ext
            ·
              refine skip ?_
              show Code.wp _ _ _ _ _
              refine region ?_
              refine sv (yMove h7) ?_
              refine sv (yAdd rfl rfl ⟨by omega, by omega⟩) ?_
              refine sv (yAsg rfl) ?_
              refine nil ?_
              exact ⟨_, _, rfl, ⟨j + 1, h5, rfl, hS, (by omega), (snoc hM (fun v hv => by cases Option.some.inj (hxs.symm.trans hv); exact (spnBad_in s).symm.trans c69)), rfl⟩, by omega⟩
          ·
            simp only [Bool.and_eq_true, Bool.or_eq_true, Bool.and_eq_false_iff, Bool.or_eq_false_iff, decide_eq_true_eq, decide_eq_false_iff_not, Bool.not_eq_true, Bool.not_eq_false, Bool.not_not, Bool.not_eq_eq_eq_not, Bool.not_true, Bool.not_false, Bool.false_eq_true, Bool.true_eq_false, ne_eq, Decidable.not_not, not_false_eq_true, not_true_eq_false] at c43
            refine exit ?_
            show Code.wp _ _ _ _ _
            refine seq ?_
            refine region ?_
            refine sv (yAsg rfl) ?_
            refine nil ?_
            show Code.wp _ _ _ _ _
            refine wp_ret ?_
            exact retV (res1 rfl (eqI (hne.trans (oprE_0 c34 c38 (fun q hq => hM q (by omega)))))) hS.ext
set_option maxHeartbeats 1000000 in
/-- barrage/barrageref10.key -/
theorem c_rkey {c : Crew} {cs : List Value} {i : Nat} {x : ByteArray} {w0 : World} (h : RCrew w0 cs c) (hx : c.keys[i]? = some x) : CV Tryz.prog 69 #[.agg cs.toArray, .int .i64 (i : Int)] w0 (.int .i64 (errR id (fun _ => 0) c.keys i x)) := by
  obtain ⟨ov, kv, nv, rfl, hso, hsk, hsn, hrm⟩ := id h
  obtain ⟨a, cap, rfl, hcap, hmx, hel⟩ := id hso
  obtain ⟨ak, ck, rfl, hckap, hkmx, helk⟩ := id hsk
  have hil := (List.getElem?_eq_some_iff.1 hx).1
  obtain ⟨y, hxq, hdq⟩ := drop_of (l := c.keys) (k := i) (by omega)
  obtain ⟨bq, oq, csq, haq, hlenq, hcsq, hRq⟩ := helk (i) (by omega)
  obtain rfl : y = c.keys[i] := (List.getElem?_eq_some_iff.1 hxq).2.symm
  generalize c.keys[i] = y at hxq hdq hRq
  obtain ⟨rfl, hnm⟩ := hRq
  obtain rfl : x = y := Option.some.inj (hx.symm.trans hxq)
  refine enter Tryz.func69 rfl Tryz.ntmps69 rfl ?_
  have hS := St.start w0
  refine seq ?_
  refine region ?_
  refine sbox hS rfl rfl ?_; clear hS; intro b2 w hS
  refine sv (yAsg rfl) ?_
  refine nil ?_
  show Code.wp _ _ _ _ _
  refine seq ?_
  refine seq ?_
  refine region ?_
  refine sv (fa26_1 rfl) ?_
  refine sv (yLdB rfl Tryz.isAgg23 (hS.at _) rfl) ?_
  refine sv (yMove rfl) ?_
  refine sv (yIxa rfl haq rfl Tryz.runUnderlying23 Tryz.sizeOf9 (by omega) (by omega)) ?_
  refine sv (yLd rfl Tryz.isAgg9 ((hcsq.ext hS.ext).one)) ?_
  refine scall Tryz.call47 (.cons rfl .nil) (c_rName hnm) ?_
  rintro _ w ⟨rfl, hE⟩; replace hS := hS.step hE; clear hE
  refine sv (yNot rfl) ?_
  refine nil ?_
  show Code.wp _ _ _ _ _
  refine cond rfl (fun c12 => ?_) (fun c12 => ?_)
  ·
    refine seq ?_
    refine region ?_
    refine sv (yAsg rfl) ?_
    refine nil ?_
    show Code.wp _ _ _ _ _
    refine wp_ret (thenR ?_)
    exact retV (res1 rfl (eqI (errR_form c12))) hS.ext
  ·
    refine skip ?_
    show Code.wp _ _ _ _ _
    refine seq ?_
    refine seq ?_
    refine region ?_
    refine sv (yAsg rfl) ?_
    refine nil ?_
    show Code.wp _ _ _ _ _
    refine block ?_
    refine loop (fun f w zz => ∃ (k : Nat), f 1 = .int .i64 (i : Int) ∧ f 2 = .pointer (some ⟨b2, 0, none⟩) ∧ f 5 = .int .i64 (k : Int) ∧ StX [] w0 w [blk b2 [.slice a c.ops.length cap, .slice ak c.keys.length ck, nv] 26] ∧ (k ≤ i) ∧ (∀ q, q < k → ∀ u, c.keys[q]? = some u → id u ≠ id x) ∧ zz = i - k) _ ⟨_, rfl, 0, rfl, rfl, rfl, hS, (Nat.zero_le _), (fun q hq => absurd hq (Nat.not_lt_zero q)), rfl⟩ ?_
    clear hS
    rintro f w _ ⟨k, h1, h2, h5, hS, hk, hN, rfl⟩
    refine seq ?_
    refine seq ?_
    refine region ?_
    refine sv (yMove h5) ?_
    refine sv (yMove h1) ?_
    refine sv (yLss rfl rfl) ?_
    refine nil ?_
    show Code.wp _ _ _ _ _
    refine cond rfl (fun c15 => ?_) (fun c15 => ?_)
    ·
      simp only [Bool.and_eq_true, Bool.or_eq_true, Bool.and_eq_false_iff, Bool.or_eq_false_iff, decide_eq_true_eq, decide_eq_false_iff_not, Bool.not_eq_true, Bool.not_eq_false, Bool.not_not, Bool.not_eq_eq_eq_not, Bool.not_true, Bool.not_false, Bool.false_eq_true, Bool.true_eq_false, ne_eq, Decidable.not_not, not_false_eq_true, not_true_eq_false] at c15
      refine skip ?_
      show Code.wp _ _ _ _ _
      refine seq ?_
      refine block ?_
      refine seq ?_
      refine region_draw mixed (by kernel_rfl) hS ?_
      obtain ⟨u, hxu, hdu⟩ := drop_of (l := c.keys) (k := k) (by omega)
      obtain ⟨bu, ou, csu, hau, hlenu, hcsu, hRu⟩ := helk (k) (by omega)
      obtain rfl : u = c.keys[k] := (List.getElem?_eq_some_iff.1 hxu).2.symm
      generalize c.keys[k] = u at hxu hdu hRu
      obtain ⟨rfl, hun⟩ := hRu
      refine qv (fun w hS => (fa26_1 h2)) ?_
      refine qv (fun w hS => (yLdB rfl Tryz.isAgg23 (hS.at _) rfl)) ?_
      refine qv (fun w hS => (yMove h5)) ?_
      refine qv (fun w hS => (yIxa rfl hau rfl Tryz.runUnderlying23 Tryz.sizeOf9 (by omega) (by omega))) ?_
      refine qv (fun w hS => (yLd rfl Tryz.isAgg9 ((hcsu.ext hS.ext).one))) ?_
      refine qv (fun w hS => (fa26_1 h2)) ?_
      refine qv (fun w hS => (yLdB rfl Tryz.isAgg23 (hS.at _) rfl)) ?_
      refine qv (fun w hS => (yMove h1)) ?_
      refine qv (fun w hS => (yIxa rfl haq rfl Tryz.runUnderlying23 Tryz.sizeOf9 (by omega) (by omega))) ?_
      refine qv (fun w hS => (yLd rfl Tryz.isAgg9 ((hcsq.ext hS.ext).one))) ?_
      refine qv (fun w hS => (ySEq rfl rfl)) ?_
      clear hS; refine qnil (fun w hS => ?_)
      show Code.wp _ _ _ _ _
      refine cond rfl (fun c28 => ?_) (fun c28 => ?_)
      ·
        simp only [Bool.and_eq_true, Bool.or_eq_true, Bool.and_eq_false_iff, Bool.or_eq_false_iff, decide_eq_true_eq, decide_eq_false_iff_not, Bool.not_eq_true, Bool.not_eq_false, Bool.not_not, Bool.not_eq_eq_eq_not, Bool.not_true, Bool.not_false, Bool.false_eq_true, Bool.true_eq_false, ne_eq, Decidable.not_not, not_false_eq_true, not_true_eq_false] at c28
        refine seq ?_
        refine region ?_
        refine sv (yAsg rfl) ?_
        refine nil ?_
        show Code.wp _ _ _ _ _
        refine wp_ret (blockR (thenR (thenR (blockR (thenR ?_)))))
        exact retV (res1 rfl (eqI (errR_twice c12 hxu (by omega) c28))) hS.ext
      ·
        simp only [Bool.and_eq_true, Bool.or_eq_true, Bool.and_eq_false_iff, Bool.or_eq_false_iff, decide_eq_true_eq, decide_eq_false_iff_not, Bool.not_eq_true, Bool.not_eq_false, Bool.not_not, Bool.not_eq_eq_eq_not, Bool.not_true, Bool.not_false, Bool.false_eq_true, Bool.true_eq_false, ne_eq, Decidable.not_not, not_false_eq_true, not_true_eq_false] at c28
        refine skip ?_
        show Code.wp _ _ _ _ _
        refine region ?_
        refine sv (yMove h5) ?_
        refine sv (yAdd rfl rfl ⟨by omega, by omega⟩) ?_
        refine sv (yAsg rfl) ?_
        refine nil ?_
        exact ⟨_, _, rfl, ⟨k + 1, h1, h2, rfl, hS, (by omega), (snoc hN (fun v hv => by cases Option.some.inj (hxu.symm.trans hv); exact c28)), rfl⟩, by omega⟩
    ·
      simp only [Bool.and_eq_true, Bool.or_eq_true, Bool.and_eq_false_iff, Bool.or_eq_false_iff, decide_eq_true_eq, decide_eq_false_iff_not, Bool.not_eq_true, Bool.not_eq_false, Bool.not_not, Bool.not_eq_eq_eq_not, Bool.not_true, Bool.not_false, Bool.false_eq_true, Bool.true_eq_false, ne_eq, Decidable.not_not, not_false_eq_true, not_true_eq_false] at c15
      refine exit ?_
      show Code.wp _ _ _ _ _
      refine seq ?_
      refine region ?_
      refine sv (yAsg rfl) ?_
      refine nil ?_
      show Code.wp _ _ _ _ _
      refine wp_ret ?_
      exact retV (res1 rfl (eqI (errR_rest c12 (fun q hq => hN q (by omega))))) hS.ext
set_option maxHeartbeats 2000000 in
/-- barrage/barrageref10.kind -/
theorem c_rkind {c : Crew} {cs : List Value} {i : Nat} {x : Knd} {w0 : World} (h : RCrew w0 cs c) (hx : c.kinds[i]? = some x) : CV Tryz.prog 70 #[.agg cs.toArray, .int .i64 (i : Int)] w0 (.int .i64 (errR (·.name) (kndE c.keys.length) c.kinds i x)) := by
  obtain ⟨ov, kv, nv, rfl, hso, hsk, hsn, hrm⟩ := id h
  obtain ⟨a, cap, rfl, hcap, hmx, hel⟩ := id hso
  obtain ⟨ak, ck, rfl, hckap, hkmx, helk⟩ := id hsk
  obtain ⟨an, cn, rfl, hncap, hnmx, heln⟩ := id hsn
  have hil := (List.getElem?_eq_some_iff.1 hx).1
  obtain ⟨y, hxq, hdq⟩ := drop_of (l := c.kinds) (k := i) (by omega)
  obtain ⟨bq, oq, csq, haq, hlenq, hcsq, hRq⟩ := heln (i) (by omega)
  obtain rfl : y = c.kinds[i] := (List.getElem?_eq_some_iff.1 hxq).2.symm
  generalize c.kinds[i] = y at hxq hdq hRq
  obtain ⟨xv, rfl, hnm, -, -, -, hsx, -⟩ := hRq
  obtain rfl : x = y := Option.some.inj (hx.symm.trans hxq)
  obtain ⟨axk, cxk, rfl, hxcap, hxmx, helx⟩ := id hsx
  refine enter Tryz.func70 rfl Tryz.ntmps70 rfl ?_
  have hS := St.start w0
  refine seq ?_
  refine region ?_
  refine sbox hS rfl rfl ?_; clear hS; intro b2 w hS
  refine sv (yAsg rfl) ?_
  refine nil ?_
  show Code.wp _ _ _ _ _
  refine seq ?_
  refine region ?_
  refine sv (fa26_2 rfl) ?_
  refine sv (yLdB rfl Tryz.isAgg24 (hS.at _) rfl) ?_
  refine sv (yMove rfl) ?_
  refine sv (yIxa rfl haq rfl Tryz.runUnderlying24 Tryz.sizeOf92 (by omega) (by omega)) ?_
  refine sv (yLdA rfl Tryz.isAgg92 Tryz.sizeOf92 (hcsq.ext hS.ext) rfl) ?_
  refine salloc hS Tryz.zeroValue92 rfl ?_; clear hS; intro b5 w hS
  refine sst hS rfl rfl Tryz.sizeOf92 rfl rfl rfl rfl ?_; clear hS; intro w hS
  refine nil ?_
  show Code.wp _ _ _ _ _
  refine seq ?_
  refine seq ?_
  refine region ?_
  replace hS : StX [] w0 w (blk b5 [.string x.name, .int .i64 x.grade, .int .i64 x.second, .int .i64 x.within, .slice axk x.keys.length cxk, .bool x.split] 92 :: blk b2 [.slice a c.ops.length cap, .slice ak c.keys.length ck, .slice an c.kinds.length cn] 26 :: []) := hS
  refine sv (fa92_0 rfl) ?_
  refine sv (yLdB rfl Tryz.isAgg9 (hS.at _) rfl) ?_
  refine scall Tryz.call47 (.cons rfl .nil) (c_rName hnm) ?_
  rintro _ w ⟨rfl, hE⟩; replace hS := hS.step hE; clear hE
  refine sv (yNot rfl) ?_
  refine nil ?_
  show Code.wp _ _ _ _ _
  refine cond rfl (fun c17 => ?_) (fun c17 => ?_)
  ·
    refine seq ?_
    refine region ?_
    refine sv (yAsg rfl) ?_
    refine nil ?_
    show Code.wp _ _ _ _ _
    refine wp_ret (thenR ?_)
    exact retV (res1 rfl (eqI (errR_form c17))) hS.ext
  ·
    refine skip ?_
    show Code.wp _ _ _ _ _
    refine seq ?_
    refine seq ?_
    refine region ?_
    refine sv (yAsg rfl) ?_
    refine nil ?_
    show Code.wp _ _ _ _ _
    refine block ?_
    refine loop (fun f w zz => ∃ (k : Nat), f 1 = .int .i64 (i : Int) ∧ f 2 = .pointer (some ⟨b2, 0, none⟩) ∧ f 5 = .pointer (some ⟨b5, 0, none⟩) ∧ f 6 = .int .i64 (k : Int) ∧ StX [] w0 w [blk b5 [.string x.name, .int .i64 x.grade, .int .i64 x.second, .int .i64 x.within, .slice axk x.keys.length cxk, .bool x.split] 92, blk b2 [.slice a c.ops.length cap, .slice ak c.keys.length ck, .slice an c.kinds.length cn] 26] ∧ (k ≤ i) ∧ (∀ q, q < k → ∀ u : Knd, c.kinds[q]? = some u → u.name ≠ x.name) ∧ zz = i - k) _ ⟨_, rfl, 0, rfl, rfl, rfl, rfl, hS, (Nat.zero_le _), (fun q hq => absurd hq (Nat.not_lt_zero q)), rfl⟩ ?_
    clear hS
    rintro f w _ ⟨k, h1, h2, h5, h6, hS, hk, hN, rfl⟩
    refine seq ?_
    refine seq ?_
    refine region ?_
    refine sv (yMove h6) ?_
    refine sv (yMove h1) ?_
    refine sv (yLss rfl rfl) ?_
    refine nil ?_
    show Code.wp _ _ _ _ _
    refine cond rfl (fun c20 => ?_) (fun c20 => ?_)
    ·
      simp only [Bool.and_eq_true, Bool.or_eq_true, Bool.and_eq_false_iff, Bool.or_eq_false_iff, decide_eq_true_eq, decide_eq_false_iff_not, Bool.not_eq_true, Bool.not_eq_false, Bool.not_not, Bool.not_eq_eq_eq_not, Bool.not_true, Bool.not_false, Bool.false_eq_true, Bool.true_eq_false, ne_eq, Decidable.not_not, not_false_eq_true, not_true_eq_false] at c20
      refine skip ?_
      show Code.wp _ _ _ _ _
      refine seq ?_
      refine block ?_
      refine seq ?_
      refine region_draw mixed (by kernel_rfl) hS ?_
      obtain ⟨u, hxu, hdu⟩ := drop_of (l := c.kinds) (k := k) (by omega)
      obtain ⟨bu, ou, csu, hau, hlenu, hcsu, hRu⟩ := heln (k) (by omega)
      obtain rfl : u = c.kinds[k] := (List.getElem?_eq_some_iff.1 hxu).2.symm
      generalize c.kinds[k] = u at hxu hdu hRu
      obtain ⟨uv, rfl, -⟩ := hRu
      refine qv (fun w hS => (fa26_2 h2)) ?_
      refine qv (fun w hS => (yLdB rfl Tryz.isAgg24 (hS.at _) rfl)) ?_
      refine qv (fun w hS => (yMove h6)) ?_
      refine qv (fun w hS => (yIxa rfl hau rfl Tryz.runUnderlying24 Tryz.sizeOf92 (by omega) (by omega))) ?_
      refine qv (fun w hS => (fa92_0 rfl)) ?_
      refine qv (fun w hS => (yLd rfl Tryz.isAgg9 ((hcsu.ext hS.ext).at (j := 0) rfl))) ?_
      refine qv (fun w hS => (fa92_0 h5)) ?_
      refine qv (fun w hS => (yLdB rfl Tryz.isAgg9 (hS.at _) rfl)) ?_
      refine qv (fun w hS => (ySEq rfl rfl)) ?_
      clear hS; refine qnil (fun w hS => ?_)
      show Code.wp _ _ _ _ _
      refine cond rfl (fun c31 => ?_) (fun c31 => ?_)
      ·
        simp only [Bool.and_eq_true, Bool.or_eq_true, Bool.and_eq_false_iff, Bool.or_eq_false_iff, decide_eq_true_eq, decide_eq_false_iff_not, Bool.not_eq_true, Bool.not_eq_false, Bool.not_not, Bool.not_eq_eq_eq_not, Bool.not_true, Bool.not_false, Bool.false_eq_true, Bool.true_eq_false, ne_eq, Decidable.not_not, not_false_eq_true, not_true_eq_false] at c31
        refine seq ?_
        refine region ?_
        refine sv (yAsg rfl) ?_
        refine nil ?_
        show Code.wp _ _ _ _ _
        refine wp_ret (blockR (thenR (thenR (blockR (thenR ?_)))))
        exact retV (res1 rfl (eqI (errR_twice c17 hxu (by omega) c31))) hS.ext
      ·
        simp only [Bool.and_eq_true, Bool.or_eq_true, Bool.and_eq_false_iff, Bool.or_eq_false_iff, decide_eq_true_eq, decide_eq_false_iff_not, Bool.not_eq_true, Bool.not_eq_false, Bool.not_not, Bool.not_eq_eq_eq_not, Bool.not_true, Bool.not_false, Bool.false_eq_true, Bool.true_eq_false, ne_eq, Decidable.not_not, not_false_eq_true, not_true_eq_false] at c31
        refine skip ?_
        show Code.wp _ _ _ _ _
        refine region ?_
        refine sv (yMove h6) ?_
        refine sv (yAdd rfl rfl ⟨by omega, by omega⟩) ?_
        refine sv (yAsg rfl) ?_
        refine nil ?_
        exact ⟨_, _, rfl, ⟨k + 1, h1, h2, h5, rfl, hS, (by omega), (snoc hN (fun v hv => by cases Option.some.inj (hxu.symm.trans hv); exact c31)), rfl⟩, by omega⟩
    ·
      simp only [Bool.and_eq_true, Bool.or_eq_true, Bool.and_eq_false_iff, Bool.or_eq_false_iff, decide_eq_true_eq, decide_eq_false_iff_not, Bool.not_eq_true, Bool.not_eq_false, Bool.not_not, Bool.not_eq_eq_eq_not, Bool.not_true, Bool.not_false, Bool.false_eq_true, Bool.true_eq_false, ne_eq, Decidable.not_not, not_false_eq_true, not_true_eq_false] at c20
      have hne : errR (·.name) (kndE c.keys.length) c.kinds i x = kndE c.keys.length x := errR_rest c17 (fun q hq => hN q (by omega))
      refine exit ?_
      show Code.wp _ _ _ _ _
      refine seq ?_
      refine seq ?_
      refine region ?_
      refine sv (fa92_1 h5) ?_
      refine sv (yLdB rfl Tryz.isAgg3 (hS.at _) rfl) ?_
      refine scall Tryz.call48 (.cons rfl (.cons rfl (.cons rfl .nil))) c_in ?_
      rintro _ w ⟨rfl, hE⟩; replace hS := hS.step hE; clear hE
      refine sv (yNot rfl) ?_
      refine sv (yMove rfl) ?_
      refine sg rfl rfl rfl (fun g => (fa92_2 h5)) (fun v37 g37 => ?_)
      refine sg rfl rfl rfl (fun g => (yLdB (g37.1 g) Tryz.isAgg3 (hS.at _) rfl)) (fun v38 g38 => ?_)
      refine sgc hS rfl rfl rfl Tryz.call48 (fun g => (.cons (g38.1 g) (.cons rfl (.cons rfl .nil)))) (fun g => c_in) ?_; clear hS; intro v39 w hS g39
      refine sg rfl rfl rfl (fun g => (yNot (g39.1 g))) (fun v40 g40 => ?_)
      refine sv (yOr rfl rfl (fun hB => (g40.1 hB))) ?_
      refine sv (yMove rfl) ?_
      refine sg rfl rfl rfl (fun g => (fa92_3 h5)) (fun v43 g43 => ?_)
      refine sg rfl rfl rfl (fun g => (yLdB (g43.1 g) Tryz.isAgg3 (hS.at _) rfl)) (fun v44 g44 => ?_)
      refine sgc hS rfl rfl rfl Tryz.call48 (fun g => (.cons (g44.1 g) (.cons rfl (.cons rfl .nil)))) (fun g => c_in) ?_; clear hS; intro v45 w hS g45
      refine sg rfl rfl rfl (fun g => (yNot (g45.1 g))) (fun v46 g46 => ?_)
      refine sv (yOr rfl rfl (fun hB => (g46.1 hB))) ?_
      refine sv (yMove rfl) ?_
      refine sg rfl rfl rfl (fun g => (fa92_2 h5)) (fun v49 g49 => ?_)
      refine sg rfl rfl rfl (fun g => (yLdB (g49.1 g) Tryz.isAgg3 (hS.at _) rfl)) (fun v50 g50 => ?_)
      refine sg rfl rfl rfl (fun g => (yEql (g50.1 g) rfl)) (fun v51 g51 => ?_)
      refine sg rfl rfl rfl (fun g => (yMove (g51.1 g))) (fun v52 g52 => ?_)
      refine sgg rfl rfl g52 (fun g => (fa92_3 h5)) (fun v53 g53 => ?_)
      refine sgg rfl rfl g52 (fun g => (yLdB (g53.1 g) Tryz.isAgg3 (hS.at _) rfl)) (fun v54 g54 => ?_)
      refine sgg rfl rfl g52 (fun g => (yNeq (g54.1 g) rfl)) (fun v55 g55 => ?_)
      refine sg rfl rfl rfl (fun g => (yAnd (g52.1 g) (fun hB => (g55.1 ⟨g, hB⟩)) rfl)) (fun v56 g56 => ?_)
      refine sv (yOr rfl rfl (fun hB => (g56.1 hB))) ?_
      refine nil ?_
      show Code.wp _ _ _ _ _
      refine cond rfl (fun c57 => ?_) (fun c57 => ?_)
      ·
        have hkr : kndR x = true := (kndR_in x).symm.trans c57
        refine seq ?_
        refine region ?_
        refine sv (yAsg rfl) ?_
        refine nil ?_
        show Code.wp _ _ _ _ _
        refine wp_ret (thenR ?_)
        exact retV (res1 rfl (eqI (hne.trans (kndE_1 hkr)))) hS.ext
      ·
        have hkr : kndR x = false := (kndR_in x).symm.trans c57
        refine skip ?_
        show Code.wp _ _ _ _ _
        refine seq ?_
        refine seq ?_
        refine region ?_
        refine sv (yAsg rfl) ?_
        refine nil ?_
        show Code.wp _ _ _ _ _
        refine block ?_
        refine loop (fun f w zz => ∃ (j : Nat), f 2 = .pointer (some ⟨b2, 0, none⟩) ∧ f 5 = .pointer (some ⟨b5, 0, none⟩) ∧ f 7 = .int .i64 (j : Int) ∧ StX [] w0 w [blk b5 [.string x.name, .int .i64 x.grade, .int .i64 x.second, .int .i64 x.within, .slice axk x.keys.length cxk, .bool x.split] 92, blk b2 [.slice a c.ops.length cap, .slice ak c.keys.length ck, .slice an c.kinds.length cn] 26] ∧ (j ≤ x.keys.length) ∧ (∀ q, q < j → ∀ y, x.keys[q]? = some y → outB y 0 ((c.keys.length : Int) - 1) = false) ∧ zz = x.keys.length - j) _ ⟨_, rfl, 0, h2, h5, rfl, hS, (Nat.zero_le _), (fun q hq => absurd hq (Nat.not_lt_zero q)), rfl⟩ ?_
        clear hS
        rintro f w _ ⟨j, h2, h5, h7, hS, hj, hM, rfl⟩
        refine seq ?_
        refine seq ?_
        refine region ?_
        refine sv (yMove h7) ?_
        refine sv (fa92_4 h5) ?_
        refine sv (yLdB rfl Tryz.isAgg37 (hS.at _) rfl) ?_
        refine sv (yLen rfl Tryz.underlying37) ?_
        refine sv (yLss rfl rfl) ?_
        refine nil ?_
        show Code.wp _ _ _ _ _
        refine cond rfl (fun c62 => ?_) (fun c62 => ?_)
        ·
          simp only [Bool.and_eq_true, Bool.or_eq_true, Bool.and_eq_false_iff, Bool.or_eq_false_iff, decide_eq_true_eq, decide_eq_false_iff_not, Bool.not_eq_true, Bool.not_eq_false, Bool.not_not, Bool.not_eq_eq_eq_not, Bool.not_true, Bool.not_false, Bool.false_eq_true, Bool.true_eq_false, ne_eq, Decidable.not_not, not_false_eq_true, not_true_eq_false] at c62
          refine skip ?_
          show Code.wp _ _ _ _ _
          refine seq ?_
          refine block ?_
          refine seq ?_
          refine region_draw mixed (by kernel_rfl) hS ?_
          obtain ⟨s, hxs, hds⟩ := drop_of (l := x.keys) (k := j) (by omega)
          obtain ⟨bs, os, css, has, hlens, hcss, hRs⟩ := helx (j) (by omega)
          obtain rfl : s = x.keys[j] := (List.getElem?_eq_some_iff.1 hxs).2.symm
          generalize x.keys[j] = s at hxs hds hRs
          obtain ⟨rfl, hsi⟩ := hRs
          refine qv (fun w hS => (fa92_4 h5)) ?_
          refine qv (fun w hS => (yLdB rfl Tryz.isAgg37 (hS.at _) rfl)) ?_
          refine qv (fun w hS => (yMove h7)) ?_
          refine qv (fun w hS => (yIxa rfl has rfl Tryz.runUnderlying37 Tryz.sizeOf3 (by omega) (by omega))) ?_
          refine qv (fun w hS => (yLd rfl Tryz.isAgg3 ((hcss.ext hS.ext).one))) ?_
          refine qv (fun w hS => (fa26_1 h2)) ?_
          refine qv (fun w hS => (yLdB rfl Tryz.isAgg23 (hS.at _) rfl)) ?_
          refine qv (fun w hS => (yLen rfl Tryz.underlying23)) ?_
          refine qv (fun w hS => (ySub rfl rfl ⟨by omega, by omega⟩)) ?_
          refine qcall Tryz.call48 (.cons rfl (.cons rfl (.cons rfl .nil))) (fun w hS => c_in) ?_
          refine qv (fun w hS => (yNot rfl)) ?_
          clear hS; refine qnil (fun w hS => ?_)
          show Code.wp _ _ _ _ _
          refine cond rfl (fun c75 => ?_) (fun c75 => ?_)
          ·
            refine seq ?_
            refine region ?_
            refine sv (yAsg rfl) ?_
            refine nil ?_
            show Code.wp _ _ _ _ _
            refine wp_ret (blockR (thenR (thenR (blockR (thenR ?_)))))
            exact retV (res1 rfl (eqI (hne.trans (kndE_2 hkr (List.mem_of_getElem? hxs) (by rw [← inB_not]; exact c75))))) hS.ext
          ·
            refine skip ?_
            show Code.wp _ _ _ _ _
            refine region ?_
            refine sv (yMove h7) ?_
            refine sv (yAdd rfl rfl ⟨by omega, by omega⟩) ?_
            refine sv (yAsg rfl) ?_
            refine nil ?_
            exact ⟨_, _, rfl, ⟨j + 1, h2, h5, rfl, hS, (by omega), (snoc hM (fun v hv => by cases Option.some.inj (hxs.symm.trans hv); rw [← inB_not]; exact c75)), rfl⟩, by omega⟩
        ·
          simp only [Bool.and_eq_true, Bool.or_eq_true, Bool.and_eq_false_iff, Bool.or_eq_false_iff, decide_eq_true_eq, decide_eq_false_iff_not, Bool.not_eq_true, Bool.not_eq_false, Bool.not_not, Bool.not_eq_eq_eq_not, Bool.not_true, Bool.not_false, Bool.false_eq_true, Bool.true_eq_false, ne_eq, Decidable.not_not, not_false_eq_true, not_true_eq_false] at c62
          have hany := key_any (nk := c.keys.length) (k := x) (fun q hq => hM q (by omega))
          refine exit ?_
          show Code.wp _ _ _ _ _
          refine seq ?_
          refine seq ?_
          refine region ?_
          refine sv (yAsg rfl) ?_
          refine nil ?_
          show Code.wp _ _ _ _ _
          refine block ?_
          refine loop (fun f w zz => ∃ (j : Nat), f 5 = .pointer (some ⟨b5, 0, none⟩) ∧ f 8 = .int .i64 (j : Int) ∧ StX [] w0 w [blk b5 [.string x.name, .int .i64 x.grade, .int .i64 x.second, .int .i64 x.within, .slice axk x.keys.length cxk, .bool x.split] 92, blk b2 [.slice a c.ops.length cap, .slice ak c.keys.length ck, .slice an c.kinds.length cn] 26] ∧ (j ≤ x.keys.length) ∧ (∀ q, q < j → ∀ y, x.keys[q]? = some y → y ∉ x.keys.take q) ∧ zz = x.keys.length - j) _ ⟨_, rfl, 0, h5, rfl, hS, (Nat.zero_le _), (fun q hq => absurd hq (Nat.not_lt_zero q)), rfl⟩ ?_
          clear hS
          rintro f w _ ⟨j, h5, h8, hS, hj, hD, rfl⟩
          refine seq ?_
          refine seq ?_
          refine region ?_
          refine sv (yMove h8) ?_
          refine sv (fa92_4 h5) ?_
          refine sv (yLdB rfl Tryz.isAgg37 (hS.at _) rfl) ?_
          refine sv (yLen rfl Tryz.underlying37) ?_
          refine sv (yLss rfl rfl) ?_
          refine nil ?_
          show Code.wp _ _ _ _ _
          refine cond rfl (fun c80 => ?_) (fun c80 => ?_)
          ·
            simp only [Bool.and_eq_true, Bool.or_eq_true, Bool.and_eq_false_iff, Bool.or_eq_false_iff, decide_eq_true_eq, decide_eq_false_iff_not, Bool.not_eq_true, Bool.not_eq_false, Bool.not_not, Bool.not_eq_eq_eq_not, Bool.not_true, Bool.not_false, Bool.false_eq_true, Bool.true_eq_false, ne_eq, Decidable.not_not, not_false_eq_true, not_true_eq_false] at c80
            refine skip ?_
            show Code.wp _ _ _ _ _
            refine seq ?_
            refine block ?_
            refine seq ?_
            refine region_draw mixed (by kernel_rfl) hS ?_
            obtain ⟨s, hxs, hds⟩ := drop_of (l := x.keys) (k := j) (by omega)
            obtain ⟨bs, os, css, has, hlens, hcss, hRs⟩ := helx (j) (by omega)
            obtain rfl : s = x.keys[j] := (List.getElem?_eq_some_iff.1 hxs).2.symm
            generalize x.keys[j] = s at hxs hds hRs
            obtain ⟨rfl, hsi⟩ := hRs
            refine qv (fun w hS => (fa92_4 h5)) ?_
            refine qv (fun w hS => (yLdB rfl Tryz.isAgg37 (hS.at _) rfl)) ?_
            refine qv (fun w hS => (yMove h8)) ?_
            refine qv (fun w hS => (yTo rfl rfl Tryz.underlying37 Tryz.sizeOf3 (by omega))) ?_
            refine qv (fun w hS => (fa92_4 h5)) ?_
            refine qv (fun w hS => (yLdB rfl Tryz.isAgg37 (hS.at _) rfl)) ?_
            refine qv (fun w hS => (yMove h8)) ?_
            refine qv (fun w hS => (yIxa rfl has rfl Tryz.runUnderlying37 Tryz.sizeOf3 (by omega) (by omega))) ?_
            refine qv (fun w hS => (yLd rfl Tryz.isAgg3 ((hcss.ext hS.ext).one))) ?_
            refine qcall Tryz.call33 (.cons rfl (.cons rfl .nil)) (fun w hS => (c_has ((hsx.ext RInt.stays hS.ext).take (i := j) (by omega)))) ?_
            clear hS; refine qnil (fun w hS => ?_)
            show Code.wp _ _ _ _ _
            refine cond rfl (fun c92 => ?_) (fun c92 => ?_)
            ·
              refine seq ?_
              refine region ?_
              refine sv (yAsg rfl) ?_
              refine nil ?_
              show Code.wp _ _ _ _ _
              refine wp_ret (blockR (thenR (thenR (blockR (thenR ?_)))))
              exact retV (res1 rfl (eqI (hne.trans (kndE_3 hkr hany (nodup_not hxs (any_mem.1 c92)))))) hS.ext
            ·
              refine skip ?_
              show Code.wp _ _ _ _ _
              refine region ?_
              refine sv (yMove h8) ?_
              refine sv (yAdd rfl rfl ⟨by omega, by omega⟩) ?_
              refine sv (yAsg rfl) ?_
              refine nil ?_
              exact ⟨_, _, rfl, ⟨j + 1, h5, rfl, hS, (by omega), (snoc hD (fun v hv => by cases Option.some.inj (hxs.symm.trans hv); intro hm; rw [any_mem.2 hm] at c92; cases c92)), rfl⟩, by omega⟩
          ·
            simp only [Bool.and_eq_true, Bool.or_eq_true, Bool.and_eq_false_iff, Bool.or_eq_false_iff, decide_eq_true_eq, decide_eq_false_iff_not, Bool.not_eq_true, Bool.not_eq_false, Bool.not_not, Bool.not_eq_eq_eq_not, Bool.not_true, Bool.not_false, Bool.false_eq_true, Bool.true_eq_false, ne_eq, Decidable.not_not, not_false_eq_true, not_true_eq_false] at c80
            have hnd : x.keys.Nodup := nodup_yes (fun q hq => hD q (by omega))
            refine exit ?_
            show Code.wp _ _ _ _ _
            refine seq ?_
            refine seq ?_
            refine region ?_
            refine sv (fa92_5 h5) ?_
            refine sv (yLdB rfl Tryz.isAgg4 (hS.at _) rfl) ?_
            refine sv (yMove rfl) ?_
            refine sg rfl rfl rfl (fun g => (fa92_2 h5)) (fun v96 g96 => ?_)
            refine sg rfl rfl rfl (fun g => (yLdB (g96.1 g) Tryz.isAgg3 (hS.at _) rfl)) (fun v97 g97 => ?_)
            refine sg rfl rfl rfl (fun g => (yEql (g97.1 g) rfl)) (fun v98 g98 => ?_)
            refine sg rfl rfl rfl (fun g => (yMove (g98.1 g))) (fun v99 g99 => ?_)
            refine sgg rfl rfl g99 (fun g => (fa92_4 h5)) (fun v100 g100 => ?_)
            refine sgg rfl rfl g99 (fun g => (yLdB (g100.1 g) Tryz.isAgg37 (hS.at _) rfl)) (fun v101 g101 => ?_)
            refine sgg rfl rfl g99 (fun g => (yLen (g101.1 g) Tryz.underlying37)) (fun v102 g102 => ?_)
            refine sgg rfl rfl g99 (fun g => (yLss (g102.1 g) rfl)) (fun v103 g103 => ?_)
            refine sg rfl rfl rfl (fun g => (yOr (g99.1 g) rfl (fun hB => (g103.1 ⟨g, hB⟩)))) (fun v104 g104 => ?_)
            refine sv (yAnd rfl (fun hB => (g104.1 hB)) rfl) ?_
            refine nil ?_
            show Code.wp _ _ _ _ _
            refine cond rfl (fun c105 => ?_) (fun c105 => ?_)
            ·
              have hks : kndS x = true := c105
              refine seq ?_
              refine region ?_
              refine sv (yAsg rfl) ?_
              refine nil ?_
              show Code.wp _ _ _ _ _
              refine wp_ret (thenR ?_)
              exact retV (res1 rfl (eqI (hne.trans (kndE_4 hkr hany hnd hks)))) hS.ext
            ·
              have hks : kndS x = false := c105
              refine skip ?_
              show Code.wp _ _ _ _ _
              refine seq ?_
              refine region ?_
              refine sv (yAsg rfl) ?_
              refine nil ?_
              show Code.wp _ _ _ _ _
              refine wp_ret ?_
              exact retV (res1 rfl (eqI (hne.trans (kndE_0 hkr hany hnd hks)))) hS.ext
set_option maxHeartbeats 2000000 in
/-- barrage/barrageref10.Check -/
theorem c_rCheck {c : Crew} {cs : List Value} {w0 : World} (h : RCrew w0 cs c) : CV Tryz.prog 38 #[.agg cs.toArray] w0 (.tuple #[.int .i64 (checkC c).1, .int .i64 (checkC c).2.1, .int .i64 (checkC c).2.2]) := by
  obtain ⟨ov, kv, nv, rfl, hso, hsk, hsn, hrm⟩ := id h
  obtain ⟨a, cap, rfl, hcap, hmx, hel⟩ := id hso
  obtain ⟨ak, ck, rfl, hckap, hkmx, helk⟩ := id hsk
  obtain ⟨an, cn, rfl, hncap, hnmx, heln⟩ := id hsn
  refine enter Tryz.func38 rfl Tryz.ntmps38 rfl ?_
  have hS := St.start w0
  refine seq ?_
  refine region ?_
  refine sbox hS rfl rfl ?_; clear hS; intro b1 w hS
  refine sv (yAsg rfl) ?_
  refine sv (yAsg rfl) ?_
  refine sv (yAsg rfl) ?_
  refine nil ?_
  show Code.wp _ _ _ _ _
  refine seq ?_
  refine seq ?_
  refine region ?_
  refine sv (fa26_0 rfl) ?_
  refine sv (yLdB rfl Tryz.isAgg22 (hS.at _) rfl) ?_
  refine sv (yLen rfl Tryz.underlying22) ?_
  refine scall Tryz.call48 (.cons rfl (.cons rfl (.cons rfl .nil))) c_in ?_
  rintro _ w ⟨rfl, hE⟩; replace hS := hS.step hE; clear hE
  refine sv (yNot rfl) ?_
  refine sv (yMove rfl) ?_
  refine sg rfl rfl rfl (fun g => (fa26_1 rfl)) (fun v17 g17 => ?_)
  refine sg rfl rfl rfl (fun g => (yLdB (g17.1 g) Tryz.isAgg23 (hS.at _) rfl)) (fun v18 g18 => ?_)
  refine sg rfl rfl rfl (fun g => (yLen (g18.1 g) Tryz.underlying23)) (fun v19 g19 => ?_)
  refine sg rfl rfl rfl (fun g => (yGtr (g19.1 g) rfl)) (fun v20 g20 => ?_)
  refine sv (yOr rfl rfl (fun hB => (g20.1 hB))) ?_
  refine sv (yMove rfl) ?_
  refine sg rfl rfl rfl (fun g => (fa26_2 rfl)) (fun v23 g23 => ?_)
  refine sg rfl rfl rfl (fun g => (yLdB (g23.1 g) Tryz.isAgg24 (hS.at _) rfl)) (fun v24 g24 => ?_)
  refine sg rfl rfl rfl (fun g => (yLen (g24.1 g) Tryz.underlying24)) (fun v25 g25 => ?_)
  refine sgc hS rfl rfl rfl Tryz.call48 (fun g => (.cons (g25.1 g) (.cons rfl (.cons rfl .nil)))) (fun g => c_in) ?_; clear hS; intro v26 w hS g26
  refine sg rfl rfl rfl (fun g => (yNot (g26.1 g))) (fun v27 g27 => ?_)
  refine sv (yOr rfl rfl (fun hB => (g27.1 hB))) ?_
  refine nil ?_
  show Code.wp _ _ _ _ _
  refine cond rfl (fun c28 => ?_) (fun c28 => ?_)
  ·
    have hfin := checkC_1 ((sizeBad_in c).symm.trans c28)
    refine seq ?_
    refine region ?_
    refine sv (yAsg rfl) ?_
    refine sv (yAsg rfl) ?_
    refine sv (yAsg rfl) ?_
    refine nil ?_
    show Code.wp _ _ _ _ _
    refine wp_ret (thenR ?_)
    exact retV (res3 rfl (eqI (by rw [hfin])) (eqI (by rw [hfin])) (eqI (by rw [hfin]))) hS.ext
  ·
    have hsz : sizeBad c = false := (sizeBad_in c).symm.trans c28
    refine skip ?_
    show Code.wp _ _ _ _ _
    refine seq ?_
    refine seq ?_
    refine region ?_
    refine sv (yAsg rfl) ?_
    refine nil ?_
    show Code.wp _ _ _ _ _
    refine block ?_
    refine loop (fun f w zz => ∃ (k : Nat), f 1 = .pointer (some ⟨b1, 0, none⟩) ∧ f 5 = .int .i64 (k : Int) ∧ StX [] w0 w [blk b1 [.slice a c.ops.length cap, .slice ak c.keys.length ck, .slice an c.kinds.length cn] 26] ∧ (k ≤ c.ops.length) ∧ (namedR (·.name) oprE c.ops [] 0 = namedR (·.name) oprE (c.ops.drop k) ((c.ops.take k).map (·.name)) k) ∧ zz = c.ops.length - k) _ ⟨_, rfl, 0, rfl, rfl, hS, (Nat.zero_le _), (rfl), rfl⟩ ?_
    clear hS
    rintro f w _ ⟨k, h1, h5, hS, hk, hI, rfl⟩
    refine seq ?_
    refine seq ?_
    refine region ?_
    refine sv (yMove h5) ?_
    refine sv (fa26_0 h1) ?_
    refine sv (yLdB rfl Tryz.isAgg22 (hS.at _) rfl) ?_
    refine sv (yLen rfl Tryz.underlying22) ?_
    refine sv (yLss rfl rfl) ?_
    refine nil ?_
    show Code.wp _ _ _ _ _
    refine cond rfl (fun c33 => ?_) (fun c33 => ?_)
    ·
      simp only [Bool.and_eq_true, Bool.or_eq_true, Bool.and_eq_false_iff, Bool.or_eq_false_iff, decide_eq_true_eq, decide_eq_false_iff_not, Bool.not_eq_true, Bool.not_eq_false, Bool.not_not, Bool.not_eq_eq_eq_not, Bool.not_true, Bool.not_false, Bool.false_eq_true, Bool.true_eq_false, ne_eq, Decidable.not_not, not_false_eq_true, not_true_eq_false] at c33
      refine skip ?_
      show Code.wp _ _ _ _ _
      refine seq ?_
      refine block ?_
      refine seq ?_
      refine region ?_
      obtain ⟨x, hx, hd⟩ := drop_of (l := c.ops) (k := k) (by omega)
      refine sv (yLdBA h1 Tryz.isAgg26 Tryz.sizeOf26 (hS.at _) rfl rfl) ?_
      refine sv (yMove h5) ?_
      refine scall Tryz.call68 (.cons rfl (.cons rfl .nil)) (c_roper (h.ext hS.ext) hx) ?_
      rintro _ w ⟨rfl, hE⟩; replace hS := hS.step hE; clear hE
      refine sv (yAsg rfl) ?_
      refine nil ?_
      show Code.wp _ _ _ _ _
      refine seq ?_
      refine region ?_
      refine sv (yMove rfl) ?_
      refine sv (yNeq rfl rfl) ?_
      refine nil ?_
      show Code.wp _ _ _ _ _
      refine cond rfl (fun c40 => ?_) (fun c40 => ?_)
      ·
        simp only [Bool.and_eq_true, Bool.or_eq_true, Bool.and_eq_false_iff, Bool.or_eq_false_iff, decide_eq_true_eq, decide_eq_false_iff_not, Bool.not_eq_true, Bool.not_eq_false, Bool.not_not, Bool.not_eq_eq_eq_not, Bool.not_true, Bool.not_false, Bool.false_eq_true, Bool.true_eq_false, ne_eq, Decidable.not_not, not_false_eq_true, not_true_eq_false] at c40
        refine seq ?_
        refine region ?_
        refine sv (yMove h5) ?_
        refine sv (yMove rfl) ?_
        refine sv (yAsg rfl) ?_
        refine sv (yAsg rfl) ?_
        refine sv (yAsg rfl) ?_
        refine nil ?_
        show Code.wp _ _ _ _ _
        have hfin := checkC_2 hsz (hI.trans (namedR_hit hd c40)) c40
        refine wp_ret (blockR (thenR (thenR (blockR (thenR ?_)))))
        exact retV (res3 rfl (eqI (by rw [hfin])) (eqI (by rw [hfin])) (eqI (by rw [hfin]))) hS.ext
      ·
        simp only [Bool.and_eq_true, Bool.or_eq_true, Bool.and_eq_false_iff, Bool.or_eq_false_iff, decide_eq_true_eq, decide_eq_false_iff_not, Bool.not_eq_true, Bool.not_eq_false, Bool.not_not, Bool.not_eq_eq_eq_not, Bool.not_true, Bool.not_false, Bool.false_eq_true, Bool.true_eq_false, ne_eq, Decidable.not_not, not_false_eq_true, not_true_eq_false] at c40
        refine skip ?_
        show Code.wp _ _ _ _ _
        refine region ?_
        refine sv (yMove h5) ?_
        refine sv (yAdd rfl rfl ⟨by omega, by omega⟩) ?_
        refine sv (yAsg rfl) ?_
        refine nil ?_
        exact ⟨_, _, rfl, ⟨k + 1, h1, rfl, hS, (by omega), (by rw [hI]; exact namedR_step hx hd c40), rfl⟩, by omega⟩
    ·
      simp only [Bool.and_eq_true, Bool.or_eq_true, Bool.and_eq_false_iff, Bool.or_eq_false_iff, decide_eq_true_eq, decide_eq_false_iff_not, Bool.not_eq_true, Bool.not_eq_false, Bool.not_not, Bool.not_eq_eq_eq_not, Bool.not_true, Bool.not_false, Bool.false_eq_true, Bool.true_eq_false, ne_eq, Decidable.not_not, not_false_eq_true, not_true_eq_false] at c33
      have ho0 : (namedR (·.name) oprE c.ops [] 0).2 = 0 := by rw [hI, namedR_end (by omega)]
      refine exit ?_
      show Code.wp _ _ _ _ _
      refine seq ?_
      refine seq ?_
      refine region ?_
      refine sv (yAsg rfl) ?_
      refine nil ?_
      show Code.wp _ _ _ _ _
      refine block ?_
      refine loop (fun f w zz => ∃ (k : Nat), f 1 = .pointer (some ⟨b1, 0, none⟩) ∧ f 7 = .int .i64 (k : Int) ∧ StX [] w0 w [blk b1 [.slice a c.ops.length cap, .slice ak c.keys.length ck, .slice an c.kinds.length cn] 26] ∧ (k ≤ c.keys.length) ∧ (namedR id (fun _ => 0) c.keys [] 0 = namedR id (fun _ => 0) (c.keys.drop k) ((c.keys.take k).map id) k) ∧ zz = c.keys.length - k) _ ⟨_, rfl, 0, h1, rfl, hS, (Nat.zero_le _), (rfl), rfl⟩ ?_
      clear hS
      rintro f w _ ⟨k, h1, h7, hS, hk, hI, rfl⟩
      refine seq ?_
      refine seq ?_
      refine region ?_
      refine sv (yMove h7) ?_
      refine sv (fa26_1 h1) ?_
      refine sv (yLdB rfl Tryz.isAgg23 (hS.at _) rfl) ?_
      refine sv (yLen rfl Tryz.underlying23) ?_
      refine sv (yLss rfl rfl) ?_
      refine nil ?_
      show Code.wp _ _ _ _ _
      refine cond rfl (fun c47 => ?_) (fun c47 => ?_)
      ·
        simp only [Bool.and_eq_true, Bool.or_eq_true, Bool.and_eq_false_iff, Bool.or_eq_false_iff, decide_eq_true_eq, decide_eq_false_iff_not, Bool.not_eq_true, Bool.not_eq_false, Bool.not_not, Bool.not_eq_eq_eq_not, Bool.not_true, Bool.not_false, Bool.false_eq_true, Bool.true_eq_false, ne_eq, Decidable.not_not, not_false_eq_true, not_true_eq_false] at c47
        refine skip ?_
        show Code.wp _ _ _ _ _
        refine seq ?_
        refine block ?_
        refine seq ?_
        refine region ?_
        obtain ⟨x, hx, hd⟩ := drop_of (l := c.keys) (k := k) (by omega)
        refine sv (yLdBA h1 Tryz.isAgg26 Tryz.sizeOf26 (hS.at _) rfl rfl) ?_
        refine sv (yMove h7) ?_
        refine scall Tryz.call69 (.cons rfl (.cons rfl .nil)) (c_rkey (h.ext hS.ext) hx) ?_
        rintro _ w ⟨rfl, hE⟩; replace hS := hS.step hE; clear hE
        refine sv (yAsg rfl) ?_
        refine nil ?_
        show Code.wp _ _ _ _ _
        refine seq ?_
        refine region ?_
        refine sv (yMove rfl) ?_
        refine sv (yNeq rfl rfl) ?_
        refine nil ?_
        show Code.wp _ _ _ _ _
        refine cond rfl (fun c54 => ?_) (fun c54 => ?_)
        ·
          simp only [Bool.and_eq_true, Bool.or_eq_true, Bool.and_eq_false_iff, Bool.or_eq_false_iff, decide_eq_true_eq, decide_eq_false_iff_not, Bool.not_eq_true, Bool.not_eq_false, Bool.not_not, Bool.not_eq_eq_eq_not, Bool.not_true, Bool.not_false, Bool.false_eq_true, Bool.true_eq_false, ne_eq, Decidable.not_not, not_false_eq_true, not_true_eq_false] at c54
          refine seq ?_
          refine region ?_
          refine sv (yMove h7) ?_
          refine sv (yMove rfl) ?_
          refine sv (yAsg rfl) ?_
          refine sv (yAsg rfl) ?_
          refine sv (yAsg rfl) ?_
          refine nil ?_
          show Code.wp _ _ _ _ _
          have hfin := checkC_3 hsz ho0 (hI.trans (namedR_hit hd c54)) c54
          refine wp_ret (blockR (thenR (thenR (blockR (thenR ?_)))))
          exact retV (res3 rfl (eqI (by rw [hfin])) (eqI (by rw [hfin])) (eqI (by rw [hfin]))) hS.ext
        ·
          simp only [Bool.and_eq_true, Bool.or_eq_true, Bool.and_eq_false_iff, Bool.or_eq_false_iff, decide_eq_true_eq, decide_eq_false_iff_not, Bool.not_eq_true, Bool.not_eq_false, Bool.not_not, Bool.not_eq_eq_eq_not, Bool.not_true, Bool.not_false, Bool.false_eq_true, Bool.true_eq_false, ne_eq, Decidable.not_not, not_false_eq_true, not_true_eq_false] at c54
          refine skip ?_
          show Code.wp _ _ _ _ _
          refine region ?_
          refine sv (yMove h7) ?_
          refine sv (yAdd rfl rfl ⟨by omega, by omega⟩) ?_
          refine sv (yAsg rfl) ?_
          refine nil ?_
          exact ⟨_, _, rfl, ⟨k + 1, h1, rfl, hS, (by omega), (by rw [hI]; exact namedR_step hx hd c54), rfl⟩, by omega⟩
      ·
        simp only [Bool.and_eq_true, Bool.or_eq_true, Bool.and_eq_false_iff, Bool.or_eq_false_iff, decide_eq_true_eq, decide_eq_false_iff_not, Bool.not_eq_true, Bool.not_eq_false, Bool.not_not, Bool.not_eq_eq_eq_not, Bool.not_true, Bool.not_false, Bool.false_eq_true, Bool.true_eq_false, ne_eq, Decidable.not_not, not_false_eq_true, not_true_eq_false] at c47
        have hk0 : (namedR id (fun _ => 0) c.keys [] 0).2 = 0 := by rw [hI, namedR_end (by omega)]
        refine exit ?_
        show Code.wp _ _ _ _ _
        refine seq ?_
        refine seq ?_
        refine region ?_
        refine sv (yAsg rfl) ?_
        refine nil ?_
        show Code.wp _ _ _ _ _
        refine block ?_
        refine loop (fun f w zz => ∃ (k : Nat), f 1 = .pointer (some ⟨b1, 0, none⟩) ∧ f 9 = .int .i64 (k : Int) ∧ StX [] w0 w [blk b1 [.slice a c.ops.length cap, .slice ak c.keys.length ck, .slice an c.kinds.length cn] 26] ∧ (k ≤ c.kinds.length) ∧ (namedR (·.name) (kndE c.keys.length) c.kinds [] 0 = namedR (·.name) (kndE c.keys.length) (c.kinds.drop k) ((c.kinds.take k).map (·.name)) k) ∧ zz = c.kinds.length - k) _ ⟨_, rfl, 0, h1, rfl, hS, (Nat.zero_le _), (rfl), rfl⟩ ?_
        clear hS
        rintro f w _ ⟨k, h1, h9, hS, hk, hI, rfl⟩
        refine seq ?_
        refine seq ?_
        refine region ?_
        refine sv (yMove h9) ?_
        refine sv (fa26_2 h1) ?_
        refine sv (yLdB rfl Tryz.isAgg24 (hS.at _) rfl) ?_
        refine sv (yLen rfl Tryz.underlying24) ?_
        refine sv (yLss rfl rfl) ?_
        refine nil ?_
        show Code.wp _ _ _ _ _
        refine cond rfl (fun c61 => ?_) (fun c61 => ?_)
        ·
          simp only [Bool.and_eq_true, Bool.or_eq_true, Bool.and_eq_false_iff, Bool.or_eq_false_iff, decide_eq_true_eq, decide_eq_false_iff_not, Bool.not_eq_true, Bool.not_eq_false, Bool.not_not, Bool.not_eq_eq_eq_not, Bool.not_true, Bool.not_false, Bool.false_eq_true, Bool.true_eq_false, ne_eq, Decidable.not_not, not_false_eq_true, not_true_eq_false] at c61
          refine skip ?_
          show Code.wp _ _ _ _ _
          refine seq ?_
          refine block ?_
          refine seq ?_
          refine region ?_
          obtain ⟨x, hx, hd⟩ := drop_of (l := c.kinds) (k := k) (by omega)
          refine sv (yLdBA h1 Tryz.isAgg26 Tryz.sizeOf26 (hS.at _) rfl rfl) ?_
          refine sv (yMove h9) ?_
          refine scall Tryz.call70 (.cons rfl (.cons rfl .nil)) (c_rkind (h.ext hS.ext) hx) ?_
          rintro _ w ⟨rfl, hE⟩; replace hS := hS.step hE; clear hE
          refine sv (yAsg rfl) ?_
          refine nil ?_
          show Code.wp _ _ _ _ _
          refine seq ?_
          refine region ?_
          refine sv (yMove rfl) ?_
          refine sv (yNeq rfl rfl) ?_
          refine nil ?_
          show Code.wp _ _ _ _ _
          refine cond rfl (fun c68 => ?_) (fun c68 => ?_)
          ·
            simp only [Bool.and_eq_true, Bool.or_eq_true, Bool.and_eq_false_iff, Bool.or_eq_false_iff, decide_eq_true_eq, decide_eq_false_iff_not, Bool.not_eq_true, Bool.not_eq_false, Bool.not_not, Bool.not_eq_eq_eq_not, Bool.not_true, Bool.not_false, Bool.false_eq_true, Bool.true_eq_false, ne_eq, Decidable.not_not, not_false_eq_true, not_true_eq_false] at c68
            refine seq ?_
            refine region ?_
            refine sv (yMove h9) ?_
            refine sv (yMove rfl) ?_
            refine sv (yAsg rfl) ?_
            refine sv (yAsg rfl) ?_
            refine sv (yAsg rfl) ?_
            refine nil ?_
            show Code.wp _ _ _ _ _
            have hfin := checkC_4 hsz ho0 hk0 (hI.trans (namedR_hit hd c68)) c68
            refine wp_ret (blockR (thenR (thenR (blockR (thenR ?_)))))
            exact retV (res3 rfl (eqI (by rw [hfin])) (eqI (by rw [hfin])) (eqI (by rw [hfin]))) hS.ext
          ·
            simp only [Bool.and_eq_true, Bool.or_eq_true, Bool.and_eq_false_iff, Bool.or_eq_false_iff, decide_eq_true_eq, decide_eq_false_iff_not, Bool.not_eq_true, Bool.not_eq_false, Bool.not_not, Bool.not_eq_eq_eq_not, Bool.not_true, Bool.not_false, Bool.false_eq_true, Bool.true_eq_false, ne_eq, Decidable.not_not, not_false_eq_true, not_true_eq_false] at c68
            refine skip ?_
            show Code.wp _ _ _ _ _
            refine region ?_
            refine sv (yMove h9) ?_
            refine sv (yAdd rfl rfl ⟨by omega, by omega⟩) ?_
            refine sv (yAsg rfl) ?_
            refine nil ?_
            exact ⟨_, _, rfl, ⟨k + 1, h1, rfl, hS, (by omega), (by rw [hI]; exact namedR_step hx hd c68), rfl⟩, by omega⟩
        ·
          simp only [Bool.and_eq_true, Bool.or_eq_true, Bool.and_eq_false_iff, Bool.or_eq_false_iff, decide_eq_true_eq, decide_eq_false_iff_not, Bool.not_eq_true, Bool.not_eq_false, Bool.not_not, Bool.not_eq_eq_eq_not, Bool.not_true, Bool.not_false, Bool.false_eq_true, Bool.true_eq_false, ne_eq, Decidable.not_not, not_false_eq_true, not_true_eq_false] at c61
          refine exit ?_
          show Code.wp _ _ _ _ _
          refine seq ?_
          refine region ?_
          refine sv (yAsg rfl) ?_
          refine sv (yAsg rfl) ?_
          refine sv (yAsg rfl) ?_
          refine nil ?_
          show Code.wp _ _ _ _ _
          have hn0 : (namedR (·.name) (kndE c.keys.length) c.kinds [] 0).2 = 0 := by rw [hI, namedR_end (by omega)]
          have hfin := checkC_0 hsz ho0 hk0 hn0
          refine wp_ret ?_
          exact retV (res3 rfl (eqI (by rw [hfin])) (eqI (by rw [hfin])) (eqI (by rw [hfin]))) hS.ext
end Go.Proofs.YtghgnofilbnbaaaGreat

/- part Ck38 -/
namespace Go.Proofs.YtghgnofilbnbaaaGreat
open Go Bx
set_option maxHeartbeats 1000000 in
/-- barrage/barrageref10.on -/
theorem c_ron {c : Crew} {cs : List Value} {who m : Int} {w0 : World} (h : RCrew w0 cs c) (hw : 0 ≤ who ∧ who < c.ops.length) : CV Tryz.prog 71 #[.agg cs.toArray, .int .i64 who, .int .i64 m] w0 (.bool (onB c who m)) := by
  obtain ⟨ov, kv, nv, rfl, hso, hsk, hsn, hrm⟩ := id h
  obtain ⟨a, cap, rfl, hcap, hmx, hel⟩ := id hso
  obtain ⟨i, rfl⟩ := Int.eq_ofNat_of_zero_le hw.1
  obtain ⟨u, hxq, hdq⟩ := drop_of (l := c.ops) (k := i) (by omega)
  obtain ⟨bq, oq, csq, haq, hlenq, hcsq, hRq⟩ := hel (i) (by omega)
  obtain rfl : u = c.ops[i] := (List.getElem?_eq_some_iff.1 hxq).2.symm
  generalize c.ops[i] = u at hxq hdq hRq
  have hR := hRq
  obtain ⟨dv, rfl, -, -, hsd, -⟩ := id hR
  obtain ⟨ad, cd, rfl, -⟩ := id hsd
  obtain ⟨ad2, cd2, hvv, hdcap, hdmx, held⟩ := id hsd
  obtain ⟨rfl, rfl⟩ := slice_inj hvv.symm
  have honb : onB c (i : Int) m = u.duty.any (spnAt m) := by unfold onB oprAt; rw [Int.toNat_natCast, getD_hit hxq]
  refine enter Tryz.func71 rfl Tryz.ntmps71 rfl ?_
  have hS := St.start w0
  refine seq ?_
  refine region ?_
  refine sbox hS rfl rfl ?_; clear hS; intro b3 w hS
  refine sv (yAsg rfl) ?_
  refine nil ?_
  show Code.wp _ _ _ _ _
  refine seq ?_
  refine region ?_
  refine sv (fa26_0 rfl) ?_
  refine sv (yLdB rfl Tryz.isAgg22 (hS.at _) rfl) ?_
  refine sv (yMove rfl) ?_
  refine sv (yIxa rfl haq rfl Tryz.runUnderlying22 Tryz.sizeOf97 (by omega) (by omega)) ?_
  refine sv (fa97_2 rfl) ?_
  refine sv (yLd rfl Tryz.isAgg95 ((hcsq.ext hS.ext).at (j := 2) rfl)) ?_
  refine sv (yAsg rfl) ?_
  refine nil ?_
  show Code.wp _ _ _ _ _
  refine seq ?_
  refine seq ?_
  refine region ?_
  refine sv (yAsg rfl) ?_
  refine nil ?_
  show Code.wp _ _ _ _ _
  refine block ?_
  refine loop (fun f w zz => ∃ (k : Nat), f 2 = .int .i64 m ∧ f 7 = .slice ad u.duty.length cd ∧ f 8 = .int .i64 (k : Int) ∧ StX [] w0 w [blk b3 [.slice a c.ops.length cap, kv, nv] 26] ∧ (k ≤ u.duty.length) ∧ ((u.duty.take k).any (spnAt m) = false) ∧ zz = u.duty.length - k) _ ⟨_, rfl, 0, rfl, rfl, rfl, hS, (Nat.zero_le _), (rfl), rfl⟩ ?_
  clear hS
  rintro f w _ ⟨k, h2, h7, h8, hS, hk, hN, rfl⟩
  refine seq ?_
  refine seq ?_
  refine region ?_
  refine sv (yMove h8) ?_
  refine sv (yMove h7) ?_
  refine sv (yLen rfl Tryz.underlying95) ?_
  refine sv (yLss rfl rfl) ?_
  refine nil ?_
  show Code.wp _ _ _ _ _
  refine cond rfl (fun c18 => ?_) (fun c18 => ?_)
  ·
    simp only [Bool.and_eq_true, Bool.or_eq_true, Bool.and_eq_false_iff, Bool.or_eq_false_iff, decide_eq_true_eq, decide_eq_false_iff_not, Bool.not_eq_true, Bool.not_eq_false, Bool.not_not, Bool.not_eq_eq_eq_not, Bool.not_true, Bool.not_false, Bool.false_eq_true, Bool.true_eq_false, ne_eq, Decidable.not_not, not_false_eq_true, not_true_eq_false] at c18
    refine skip ?_
    show Code.wp _ _ _ _ _
    refine seq ?_
    refine block ?_
    refine seq ?_
    refine region ?_
    obtain ⟨s, hxs, hds⟩ := drop_of (l := u.duty) (k := k) (by omega)
    obtain ⟨bs, os, css, has, hlens, hcss, hRs⟩ := held (k) (by omega)
    obtain rfl : s = u.duty[k] := (List.getElem?_eq_some_iff.1 hxs).2.symm
    generalize u.duty[k] = s at hxs hds hRs
    obtain ⟨rfl, hsi⟩ := hRs
    refine sv (yMove h7) ?_
    refine sv (yMove h8) ?_
    refine sv (yIxa rfl has rfl Tryz.runUnderlying95 Tryz.sizeOf94 (by omega) (by omega)) ?_
    refine sv (fa94_0 rfl) ?_
    refine sv (yLd rfl Tryz.isAgg3 ((hcss.ext hS.ext).at (j := 0) rfl)) ?_
    refine sv (yMove h2) ?_
    refine sv (yLeq rfl rfl) ?_
    refine sv (yMove rfl) ?_
    refine sg rfl rfl rfl (fun g => (yMove h2)) (fun v29 g29 => ?_)
    refine sg rfl rfl rfl (fun g => (yMove h7)) (fun v30 g30 => ?_)
    refine sg rfl rfl rfl (fun g => (yMove h8)) (fun v31 g31 => ?_)
    refine sg rfl rfl rfl (fun g => (yIxa (g30.1 g) has (g31.1 g) Tryz.runUnderlying95 Tryz.sizeOf94 (by omega) (by omega))) (fun v32 g32 => ?_)
    refine sg rfl rfl rfl (fun g => (fa94_1 (g32.1 g))) (fun v33 g33 => ?_)
    refine sg rfl rfl rfl (fun g => (yLd (g33.1 g) Tryz.isAgg3 ((hcss.ext hS.ext).at (j := 1) rfl))) (fun v34 g34 => ?_)
    refine sg rfl rfl rfl (fun g => (yLss (g29.1 g) (g34.1 g))) (fun v35 g35 => ?_)
    refine sv (yAnd rfl (fun hB => (g35.1 hB)) rfl) ?_
    refine nil ?_
    show Code.wp _ _ _ _ _
    refine cond rfl (fun c36 => ?_) (fun c36 => ?_)
    ·
      refine seq ?_
      refine region ?_
      refine sv (yAsg rfl) ?_
      refine nil ?_
      show Code.wp _ _ _ _ _
      refine wp_ret (blockR (thenR (thenR (blockR (thenR ?_)))))
      exact retV (res1 rfl (eqB (honb.trans (List.any_eq_true.2 ⟨s, List.mem_of_getElem? hxs, c36⟩)))) hS.ext
    ·
      refine skip ?_
      show Code.wp _ _ _ _ _
      refine region ?_
      refine sv (yMove h8) ?_
      refine sv (yAdd rfl rfl ⟨by omega, by omega⟩) ?_
      refine sv (yAsg rfl) ?_
      refine nil ?_
      exact ⟨_, _, rfl, ⟨k + 1, h2, h7, rfl, hS, (by omega), (by rw [take_snoc hxs, List.any_append, hN, List.any_cons, List.any_nil, show spnAt m s = false from c36]; rfl), rfl⟩, by omega⟩
  ·
    simp only [Bool.and_eq_true, Bool.or_eq_true, Bool.and_eq_false_iff, Bool.or_eq_false_iff, decide_eq_true_eq, decide_eq_false_iff_not, Bool.not_eq_true, Bool.not_eq_false, Bool.not_not, Bool.not_eq_eq_eq_not, Bool.not_true, Bool.not_false, Bool.false_eq_true, Bool.true_eq_false, ne_eq, Decidable.not_not, not_false_eq_true, not_true_eq_false] at c18
    refine exit ?_
    show Code.wp _ _ _ _ _
    refine seq ?_
    refine region ?_
    refine sv (yAsg rfl) ?_
    refine nil ?_
    show Code.wp _ _ _ _ _
    obtain rfl : k = u.duty.length := by omega
    rw [List.take_length] at hN
    refine wp_ret ?_
    exact retV (res1 rfl (eqB (honb.trans hN))) hS.ext
end Go.Proofs.YtghgnofilbnbaaaGreat

/- part Ck39 -/
namespace Go.Proofs.YtghgnofilbnbaaaGreat
open Go Bx
set_option maxHeartbeats 1000000 in
/-- barrage/barrageref10.step -/
theorem c_rstep {c : Crew} {cs : List Value} {i : Nat} {x : Stp} {w0 : World} (h : RCrew w0 cs c) (hi : i ≤ 1000) : CV Tryz.prog 49 #[.agg cs.toArray, .int .i64 (i : Int), .agg (stpC x).toArray] w0 (.int .i64 (stepE c i x)) := by
  obtain ⟨ov, kv, nv, rfl, hso, hsk, hsn, hrm⟩ := id h
  obtain ⟨a, cap, rfl, hcap, hmx, hel⟩ := id hso
  obtain ⟨an, cn, rfl, hncap, hnmx, -⟩ := id hsn
  refine enter Tryz.func49 rfl Tryz.ntmps49 rfl ?_
  have hS := St.start w0
  refine seq ?_
  refine region ?_
  refine sbox hS rfl rfl ?_; clear hS; intro b3 w hS
  refine sbox hS rfl rfl ?_; clear hS; intro b5 w hS
  refine sv (yAsg rfl) ?_
  refine nil ?_
  show Code.wp _ _ _ _ _
  refine seq ?_
  refine seq ?_
  refine region ?_
  refine sv (fa78_0 rfl) ?_
  refine sv (yLdB rfl Tryz.isAgg3 (hS.at _) rfl) ?_
  refine sv (fa26_2 rfl) ?_
  refine sv (yLdB rfl Tryz.isAgg24 (hS.at _) rfl) ?_
  refine sv (yLen rfl Tryz.underlying24) ?_
  refine sv (ySub rfl rfl ⟨by omega, by omega⟩) ?_
  refine scall Tryz.call48 (.cons rfl (.cons rfl (.cons rfl .nil))) c_in ?_
  rintro _ w ⟨rfl, hE⟩; replace hS := hS.step hE; clear hE
  refine sv (yNot rfl) ?_
  refine nil ?_
  show Code.wp _ _ _ _ _
  refine cond rfl (fun c14 => ?_) (fun c14 => ?_)
  ·
    refine seq ?_
    refine region ?_
    refine sv (yAsg rfl) ?_
    refine nil ?_
    show Code.wp _ _ _ _ _
    refine wp_ret (thenR ?_)
    exact retV (res1 rfl (eqI (stepE_1 c14))) hS.ext
  ·
    refine skip ?_
    show Code.wp _ _ _ _ _
    refine seq ?_
    refine seq ?_
    refine region ?_
    refine sv (fa78_1 rfl) ?_
    refine sv (yLdB rfl Tryz.isAgg3 (hS.at _) rfl) ?_
    refine scall Tryz.call48 (.cons rfl (.cons rfl (.cons rfl .nil))) c_in ?_
    rintro _ w ⟨rfl, hE⟩; replace hS := hS.step hE; clear hE
    refine sv (yNot rfl) ?_
    refine nil ?_
    show Code.wp _ _ _ _ _
    refine cond rfl (fun c18 => ?_) (fun c18 => ?_)
    ·
      refine seq ?_
      refine region ?_
      refine sv (yAsg rfl) ?_
      refine nil ?_
      show Code.wp _ _ _ _ _
      refine wp_ret (thenR ?_)
      exact retV (res1 rfl (eqI (stepE_2 c14 c18))) hS.ext
    ·
      refine skip ?_
      show Code.wp _ _ _ _ _
      refine seq ?_
      refine seq ?_
      refine region ?_
      refine sv (fa78_2 rfl) ?_
      refine sv (yLdB rfl Tryz.isAgg3 (hS.at _) rfl) ?_
      refine sv (yMove rfl) ?_
      refine sv (ySub rfl rfl ⟨by omega, by omega⟩) ?_
      refine scall Tryz.call48 (.cons rfl (.cons rfl (.cons rfl .nil))) c_in ?_
      rintro _ w ⟨rfl, hE⟩; replace hS := hS.step hE; clear hE
      refine sv (yNot rfl) ?_
      refine nil ?_
      show Code.wp _ _ _ _ _
      refine cond rfl (fun c24 => ?_) (fun c24 => ?_)
      ·
        refine seq ?_
        refine region ?_
        refine sv (yAsg rfl) ?_
        refine nil ?_
        show Code.wp _ _ _ _ _
        refine wp_ret (thenR ?_)
        exact retV (res1 rfl (eqI (stepE_3 c14 c18 c24))) hS.ext
      ·
        refine skip ?_
        show Code.wp _ _ _ _ _
        refine seq ?_
        refine seq ?_
        refine region ?_
        refine sv (fa78_4 rfl) ?_
        refine sv (yLdB rfl Tryz.isAgg3 (hS.at _) rfl) ?_
        refine scall Tryz.call48 (.cons rfl (.cons rfl (.cons rfl .nil))) c_in ?_
        rintro _ w ⟨rfl, hE⟩; replace hS := hS.step hE; clear hE
        refine sv (yNot rfl) ?_
        refine sv (yMove rfl) ?_
        refine sg rfl rfl rfl (fun g => (fa78_3 rfl)) (fun v30 g30 => ?_)
        refine sg rfl rfl rfl (fun g => (yLdB (g30.1 g) Tryz.isAgg3 (hS.at _) rfl)) (fun v31 g31 => ?_)
        refine sg rfl rfl rfl (fun g => (fa78_4 rfl)) (fun v32 g32 => ?_)
        refine sg rfl rfl rfl (fun g => (yLdB (g32.1 g) Tryz.isAgg3 (hS.at _) rfl)) (fun v33 g33 => ?_)
        refine sgc hS rfl rfl rfl Tryz.call48 (fun g => (.cons (g31.1 g) (.cons rfl (.cons (g33.1 g) .nil)))) (fun g => c_in) ?_; clear hS; intro v34 w hS g34
        refine sg rfl rfl rfl (fun g => (yNot (g34.1 g))) (fun v35 g35 => ?_)
        refine sv (yOr rfl rfl (fun hB => (g35.1 hB))) ?_
        refine nil ?_
        show Code.wp _ _ _ _ _
        refine cond rfl (fun c36 => ?_) (fun c36 => ?_)
        ·
          refine seq ?_
          refine region ?_
          refine sv (yAsg rfl) ?_
          refine nil ?_
          show Code.wp _ _ _ _ _
          refine wp_ret (thenR ?_)
          exact retV (res1 rfl (eqI (stepE_4 c14 c18 c24 c36))) hS.ext
        ·
          refine skip ?_
          show Code.wp _ _ _ _ _
          refine seq ?_
          refine region ?_
          refine sv (yAsg rfl) ?_
          refine nil ?_
          show Code.wp _ _ _ _ _
          refine wp_ret ?_
          exact retV (res1 rfl (eqI (stepE_0 c14 c18 c24 c36))) hS.ext
set_option maxHeartbeats 1000000 in
/-- barrage/barrageref10.CheckScript -/
theorem c_rCheckScript {c : Crew} {cs ss : List Value} {s : Scr} {w0 : World} (h : RCrew w0 cs c) (hs : RScr w0 ss s) : CV Tryz.prog 31 #[.agg cs.toArray, .agg ss.toArray] w0 (.tuple #[.int .i64 (scriptF c s).1, .int .i64 (scriptF c s).2]) := by
  obtain ⟨ov, kv, nv, rfl, hso, hsk, hsn, hrm⟩ := id h
  obtain ⟨a, cap, rfl, hcap, hmx, hel⟩ := id hso
  obtain ⟨sv, rfl, hsz, hst⟩ := id hs
  obtain ⟨ax, cps, rfl, hscap, hsmx, hels⟩ := id hst
  refine enter Tryz.func31 rfl Tryz.ntmps31 rfl ?_
  have hS := St.start w0
  refine seq ?_
  refine region ?_
  refine sbox hS rfl rfl ?_; clear hS; intro b2 w hS
  refine sbox hS rfl rfl ?_; clear hS; intro b3 w hS
  refine sv (yAsg rfl) ?_
  refine sv (yAsg rfl) ?_
  refine nil ?_
  show Code.wp _ _ _ _ _
  refine seq ?_
  refine region ?_
  refine sv (yLdBA rfl Tryz.isAgg26 Tryz.sizeOf26 (hS.at _) rfl rfl) ?_
  refine scall Tryz.call38 (.cons rfl .nil) (c_rCheck (h.ext hS.ext)) ?_
  rintro _ w ⟨rfl, hE⟩; replace hS := hS.step hE; clear hE
  refine sv (yMove rfl) ?_
  refine sv (yExt rfl rfl) ?_
  refine sv (yExt rfl rfl) ?_
  refine sv (yExt rfl rfl) ?_
  refine sv (yAsg rfl) ?_
  refine sv (yAsg rfl) ?_
  refine sv (yAsg rfl) ?_
  refine nil ?_
  show Code.wp _ _ _ _ _
  refine seq ?_
  refine seq ?_
  refine region ?_
  refine sv (yMove rfl) ?_
  refine sv (yNeq rfl rfl) ?_
  refine nil ?_
  show Code.wp _ _ _ _ _
  refine cond rfl (fun c18 => ?_) (fun c18 => ?_)
  ·
    simp only [Bool.and_eq_true, Bool.or_eq_true, Bool.and_eq_false_iff, Bool.or_eq_false_iff, decide_eq_true_eq, decide_eq_false_iff_not, Bool.not_eq_true, Bool.not_eq_false, Bool.not_not, Bool.not_eq_eq_eq_not, Bool.not_true, Bool.not_false, Bool.false_eq_true, Bool.true_eq_false, ne_eq, Decidable.not_not, not_false_eq_true, not_true_eq_false] at c18
    refine seq ?_
    refine region ?_
    refine sv (yMove rfl) ?_
    refine sv (yAsg rfl) ?_
    refine sv (yAsg rfl) ?_
    refine nil ?_
    show Code.wp _ _ _ _ _
    have hfin := scriptF_1 (s := s) c18
    refine wp_ret (thenR ?_)
    exact retV (res2 rfl (eqI (by rw [hfin])) (eqI (by rw [hfin]))) hS.ext
  ·
    simp only [Bool.and_eq_true, Bool.or_eq_true, Bool.and_eq_false_iff, Bool.or_eq_false_iff, decide_eq_true_eq, decide_eq_false_iff_not, Bool.not_eq_true, Bool.not_eq_false, Bool.not_not, Bool.not_eq_eq_eq_not, Bool.not_true, Bool.not_false, Bool.false_eq_true, Bool.true_eq_false, ne_eq, Decidable.not_not, not_false_eq_true, not_true_eq_false] at c18
    refine skip ?_
    show Code.wp _ _ _ _ _
    refine seq ?_
    refine seq ?_
    refine region ?_
    refine sv (fa45_0 rfl) ?_
    refine sv (yLdB rfl Tryz.isAgg9 (hS.at _) rfl) ?_
    refine scall Tryz.call47 (.cons rfl .nil) (c_rName hsz) ?_
    rintro _ w ⟨rfl, hE⟩; replace hS := hS.step hE; clear hE
    refine sv (yNot rfl) ?_
    refine nil ?_
    show Code.wp _ _ _ _ _
    refine cond rfl (fun c23 => ?_) (fun c23 => ?_)
    ·
      refine seq ?_
      refine region ?_
      refine sv (yAsg rfl) ?_
      refine sv (yAsg rfl) ?_
      refine nil ?_
      show Code.wp _ _ _ _ _
      have hfin := scriptF_2 c18 c23
      refine wp_ret (thenR ?_)
      exact retV (res2 rfl (eqI (by rw [hfin])) (eqI (by rw [hfin]))) hS.ext
    ·
      refine skip ?_
      show Code.wp _ _ _ _ _
      refine seq ?_
      refine seq ?_
      refine region ?_
      refine sv (fa45_1 rfl) ?_
      refine sv (yLdB rfl Tryz.isAgg43 (hS.at _) rfl) ?_
      refine sv (yLen rfl Tryz.underlying43) ?_
      refine scall Tryz.call48 (.cons rfl (.cons rfl (.cons rfl .nil))) c_in ?_
      rintro _ w ⟨rfl, hE⟩; replace hS := hS.step hE; clear hE
      refine sv (yNot rfl) ?_
      refine nil ?_
      show Code.wp _ _ _ _ _
      refine cond rfl (fun c28 => ?_) (fun c28 => ?_)
      ·
        refine seq ?_
        refine region ?_
        refine sv (yAsg rfl) ?_
        refine sv (yAsg rfl) ?_
        refine nil ?_
        show Code.wp _ _ _ _ _
        have hfin := scriptF_3 c18 c23 c28
        refine wp_ret (thenR ?_)
        exact retV (res2 rfl (eqI (by rw [hfin])) (eqI (by rw [hfin]))) hS.ext
      ·
        have hfin0 := scriptF_4 c18 c23 c28
        have hle : 1 ≤ (s.steps.length : Int) ∧ (s.steps.length : Int) ≤ 10 := by have := c28; rw [inB_not, outB_false] at this; exact this
        refine skip ?_
        show Code.wp _ _ _ _ _
        refine seq ?_
        refine seq ?_
        refine region ?_
        refine sv (yAsg rfl) ?_
        refine nil ?_
        show Code.wp _ _ _ _ _
        refine block ?_
        refine loop (fun f w zz => ∃ (k : Nat), f 2 = .pointer (some ⟨b2, 0, none⟩) ∧ f 3 = .pointer (some ⟨b3, 0, none⟩) ∧ f 9 = .int .i64 (k : Int) ∧ StX [] w0 w [blk b3 [.string s.name, .slice ax s.steps.length cps] 45, blk b2 [.slice a c.ops.length cap, kv, nv] 26] ∧ (k ≤ s.steps.length) ∧ (firstS c s.steps 0 = firstS c (s.steps.drop k) k) ∧ zz = s.steps.length - k) _ ⟨_, rfl, 0, rfl, rfl, rfl, hS, (Nat.zero_le _), (rfl), rfl⟩ ?_
        clear hS
        rintro f w _ ⟨k, h2, h3, h9, hS, hk, hF, rfl⟩
        refine seq ?_
        refine seq ?_
        refine region ?_
        refine sv (yMove h9) ?_
        refine sv (fa45_1 h3) ?_
        refine sv (yLdB rfl Tryz.isAgg43 (hS.at _) rfl) ?_
        refine sv (yLen rfl Tryz.underlying43) ?_
        refine sv (yLss rfl rfl) ?_
        refine nil ?_
        show Code.wp _ _ _ _ _
        refine cond rfl (fun c33 => ?_) (fun c33 => ?_)
        ·
          simp only [Bool.and_eq_true, Bool.or_eq_true, Bool.and_eq_false_iff, Bool.or_eq_false_iff, decide_eq_true_eq, decide_eq_false_iff_not, Bool.not_eq_true, Bool.not_eq_false, Bool.not_not, Bool.not_eq_eq_eq_not, Bool.not_true, Bool.not_false, Bool.false_eq_true, Bool.true_eq_false, ne_eq, Decidable.not_not, not_false_eq_true, not_true_eq_false] at c33
          refine skip ?_
          show Code.wp _ _ _ _ _
          refine seq ?_
          refine block ?_
          refine seq ?_
          refine region_draw mixed (by kernel_rfl) hS ?_
          obtain ⟨x, hxq, hdq⟩ := drop_of (l := s.steps) (k := k) (by omega)
          obtain ⟨bq, oq, csq, haq, hlenq, hcsq, hRq⟩ := hels (k) (by omega)
          obtain rfl : x = s.steps[k] := (List.getElem?_eq_some_iff.1 hxq).2.symm
          generalize s.steps[k] = x at hxq hdq hRq
          obtain ⟨rfl, hxi⟩ := hRq
          refine qv (fun w hS => (yLdBA h2 Tryz.isAgg26 Tryz.sizeOf26 (hS.at _) rfl rfl)) ?_
          refine qv (fun w hS => (yMove h9)) ?_
          refine qv (fun w hS => (fa45_1 h3)) ?_
          refine qv (fun w hS => (yLdB rfl Tryz.isAgg43 (hS.at _) rfl)) ?_
          refine qv (fun w hS => (yMove h9)) ?_
          refine qv (fun w hS => (yIxa rfl haq rfl Tryz.runUnderlying43 Tryz.sizeOf78 (by omega) (by omega))) ?_
          refine qv (fun w hS => (yLdA rfl Tryz.isAgg78 Tryz.sizeOf78 (hcsq.ext hS.ext) rfl)) ?_
          refine qcall Tryz.call49 (.cons rfl (.cons rfl (.cons rfl .nil))) (fun w hS => (c_rstep (h.ext hS.ext) (by omega))) ?_
          refine qv (fun w hS => (yAsg rfl)) ?_
          clear hS; refine qnil (fun w hS => ?_)
          show Code.wp _ _ _ _ _
          refine seq ?_
          refine region ?_
          refine sv (yMove rfl) ?_
          refine sv (yNeq rfl rfl) ?_
          refine nil ?_
          show Code.wp _ _ _ _ _
          refine cond rfl (fun c45 => ?_) (fun c45 => ?_)
          ·
            simp only [Bool.and_eq_true, Bool.or_eq_true, Bool.and_eq_false_iff, Bool.or_eq_false_iff, decide_eq_true_eq, decide_eq_false_iff_not, Bool.not_eq_true, Bool.not_eq_false, Bool.not_not, Bool.not_eq_eq_eq_not, Bool.not_true, Bool.not_false, Bool.false_eq_true, Bool.true_eq_false, ne_eq, Decidable.not_not, not_false_eq_true, not_true_eq_false] at c45
            refine seq ?_
            refine region ?_
            refine sv (yMove h9) ?_
            refine sv (yMove rfl) ?_
            refine sv (yAsg rfl) ?_
            refine sv (yAsg rfl) ?_
            refine nil ?_
            show Code.wp _ _ _ _ _
            have hfin : scriptF c s = ((k : Int), stepE c k x) := by rw [hfin0, hF, firstS_hit hdq c45]
            refine wp_ret (blockR (thenR (thenR (blockR (thenR ?_)))))
            exact retV (res2 rfl (eqI (by rw [hfin])) (eqI (by rw [hfin]))) hS.ext
          ·
            simp only [Bool.and_eq_true, Bool.or_eq_true, Bool.and_eq_false_iff, Bool.or_eq_false_iff, decide_eq_true_eq, decide_eq_false_iff_not, Bool.not_eq_true, Bool.not_eq_false, Bool.not_not, Bool.not_eq_eq_eq_not, Bool.not_true, Bool.not_false, Bool.false_eq_true, Bool.true_eq_false, ne_eq, Decidable.not_not, not_false_eq_true, not_true_eq_false] at c45
            refine skip ?_
            show Code.wp _ _ _ _ _
            refine region ?_
            refine sv (yMove h9) ?_
            refine sv (yAdd rfl rfl ⟨by omega, by omega⟩) ?_
            refine sv (yAsg rfl) ?_
            refine nil ?_
            exact ⟨_, _, rfl, ⟨k + 1, h2, h3, rfl, hS, (by omega), (by rw [hF, firstS_drop hdq c45]), rfl⟩, by omega⟩
        ·
          simp only [Bool.and_eq_true, Bool.or_eq_true, Bool.and_eq_false_iff, Bool.or_eq_false_iff, decide_eq_true_eq, decide_eq_false_iff_not, Bool.not_eq_true, Bool.not_eq_false, Bool.not_not, Bool.not_eq_eq_eq_not, Bool.not_true, Bool.not_false, Bool.false_eq_true, Bool.true_eq_false, ne_eq, Decidable.not_not, not_false_eq_true, not_true_eq_false] at c33
          refine exit ?_
          show Code.wp _ _ _ _ _
          refine seq ?_
          refine region ?_
          refine sv (yAsg rfl) ?_
          refine sv (yAsg rfl) ?_
          refine nil ?_
          show Code.wp _ _ _ _ _
          have hfin : scriptF c s = (0, 0) := by rw [hfin0, hF, List.drop_of_length_le (by omega)]; rfl
          refine wp_ret ?_
          exact retV (res2 rfl (eqI (by rw [hfin])) (eqI (by rw [hfin]))) hS.ext
end Go.Proofs.YtghgnofilbnbaaaGreat

/- part C26 -/
namespace Bx
open Go Go.RowKit
abbrev LOrd := List Ord
abbrev nOrd : Ord := ⟨0, 0, 0, 0, 0⟩
structure Jd where
  left : List Ord
  done : List (Option Int)
  flt : List (Int × Int)
def hitO (x : Stp) (o : Ord) : Bool := decide (o.kind = x.kind) && decide (o.subj = x.subj)
def befJ (start : Int) (done : List (Option Int)) (a : Int) : Option Int := if a = -1 then some start else if 0 ≤ a then done.getD a.toNat none else none
def fltJ (i : Nat) (x : Stp) (own : Int) : Option Int → List (Int × Int)
  | none => []
  | some b => if own < b + x.least then [(208, (i : Int))] else if b + x.most < own then [(209, (i : Int))] else []
def judS (start : Int) (i : Nat) (x : Stp) (st : Jd) : Jd :=
  if idxF (hitO x) st.left 0 < 0 then ⟨st.left, st.done ++ [none], st.flt ++ [(207, (i : Int))]⟩
  else ⟨st.left.eraseIdx (idxF (hitO x) st.left 0).toNat, st.done ++ [some (st.left.getD (idxF (hitO x) st.left 0).toNat nOrd).tm], st.flt ++ fltJ i x (st.left.getD (idxF (hitO x) st.left 0).toNat nOrd).tm (befJ start st.done x.after)⟩
def judN (s : Scr) (start : Int) (l : List Ord) : Nat → Jd
  | 0 => ⟨l, [], []⟩
  | k + 1 => judS start k (stpAt s k) (judN s start l k)
def judE (c : Crew) (s : Scr) (start : Int) (acts : List Acn) : Int := if (scriptF c s).2 ≠ 0 then (scriptF c s).2 else if neverB start = true then 7 else playE c acts
abbrev leftJ (c : Crew) (acts : List Acn) (start : Int) : List Ord := (playO c acts).filter fun o => !decide (o.tm < start)
def judL (c : Crew) (s : Scr) (start : Int) (acts : List Acn) : List (Int × Int) := if judE c s start acts ≠ 0 then [] else (judN s start (leftJ c acts start) s.steps.length).flt
theorem judE_1 {c : Crew} {s : Scr} {start : Int} {acts : List Acn} (h : (scriptF c s).2 ≠ 0) : judE c s start acts = (scriptF c s).2 ∧ judL c s start acts = [] := by
  have e : judE c s start acts = (scriptF c s).2 := if_pos h
  exact ⟨e, by unfold judL; rw [if_pos (by rw [e]; exact h)]⟩
theorem judE_2 {c : Crew} {s : Scr} {start : Int} {acts : List Acn} (h : (scriptF c s).2 = 0) (h2 : neverB start = true) : judE c s start acts = 7 ∧ judL c s start acts = [] := by
  have e : judE c s start acts = 7 := by unfold judE; rw [if_neg (not_not_intro h), if_pos h2]
  exact ⟨e, by unfold judL; rw [if_pos (by rw [e]; decide)]⟩
theorem judE_3 {c : Crew} {s : Scr} {start : Int} {acts : List Acn} (h : (scriptF c s).2 = 0) (h2 : neverB start = false) (h3 : playE c acts ≠ 0) : judE c s start acts = playE c acts ∧ judL c s start acts = [] := by
  have e : judE c s start acts = playE c acts := by unfold judE; rw [if_neg (not_not_intro h), if_neg (by rw [h2]; decide)]
  exact ⟨e, by unfold judL; rw [if_pos (by rw [e]; exact h3)]⟩
theorem judE_0 {c : Crew} {s : Scr} {start : Int} {acts : List Acn} (h : (scriptF c s).2 = 0) (h2 : neverB start = false) (h3 : playE c acts = 0) : judE c s start acts = 0 ∧ judL c s start acts = (judN s start (leftJ c acts start) s.steps.length).flt := by
  have e : judE c s start acts = 0 := by unfold judE; rw [if_neg (not_not_intro h), if_neg (by rw [h2]; decide), h3]
  exact ⟨e, by unfold judL; rw [if_neg (not_not_intro e)]⟩
theorem judN_succ {s : Scr} {start : Int} {l : List Ord} {k : Nat} {x : Stp} (h : s.steps[k]? = some x) : judN s start l (k + 1) = judS start k x (judN s start l k) := by rw [judN, stpAt_hit h]
theorem judS_no {start : Int} {i : Nat} {x : Stp} {st : Jd} (h : idxF (hitO x) st.left 0 < 0) : judS start i x st = ⟨st.left, st.done ++ [none], st.flt ++ [(207, (i : Int))]⟩ := if_pos h
theorem judS_yes {start : Int} {i k : Nat} {x : Stp} {o : Ord} {st : Jd} (h : idxF (hitO x) st.left 0 = k) (ho : st.left[k]? = some o) : judS start i x st = ⟨st.left.eraseIdx k, st.done ++ [some o.tm], st.flt ++ fltJ i x o.tm (befJ start st.done x.after)⟩ := by
  unfold judS
  rw [if_neg (by omega), h, Int.toNat_natCast, getD_hit ho]
theorem judS_len {start : Int} {i : Nat} {x : Stp} {st : Jd} : (judS start i x st).done.length = st.done.length + 1 := by unfold judS; split <;> simp
theorem judN_len (s : Scr) (start : Int) (l : List Ord) : ∀ k, (judN s start l k).done.length = k
  | 0 => rfl
  | k + 1 => by rw [judN, judS_len, judN_len s start l k]
theorem fltJ_len (i : Nat) (x : Stp) (own : Int) (b : Option Int) : (fltJ i x own b).length ≤ 1 := by
  unfold fltJ
  repeat' split
  all_goals simp
theorem judN_flt (s : Scr) (start : Int) (l : List Ord) : ∀ k, (judN s start l k).flt.length ≤ k
  | 0 => Nat.le_refl _
  | k + 1 => by
    have ih := judN_flt s start l k
    rw [judN]
    unfold judS
    split
    · simp only [List.length_append, List.length_singleton]; omega
    · have := fltJ_len k (stpAt s k) ((judN s start l k).left.getD (idxF (hitO (stpAt s k)) (judN s start l k).left 0).toNat nOrd).tm (befJ start (judN s start l k).done (stpAt s k).after)
      simp only [List.length_append]; omega
theorem judN_left (s : Scr) (start : Int) (l : List Ord) : ∀ k, (judN s start l k).left.length ≤ l.length ∧ ∀ o ∈ (judN s start l k).left, o ∈ l
  | 0 => ⟨Nat.le_refl _, fun o h => h⟩
  | k + 1 => by
    obtain ⟨h1, h2⟩ := judN_left s start l k
    rw [judN]
    unfold judS
    split
    · exact ⟨h1, h2⟩
    · refine ⟨Nat.le_trans (List.length_eraseIdx_le ..) h1, fun o ho => h2 o (List.mem_of_mem_eraseIdx ho)⟩
/-- The orders' times that are known, as the map keeps them. -/
def MapJ (start : Int) (done : List (Option Int)) (M : List (Int × Value)) : Prop := ∀ key : Int, getM M key = (befJ start done key).map (Value.int .i64)
theorem mapJ_0 (start : Int) : MapJ start [] (setM [] (-1) (.int .i64 start)) := by
  intro key
  rw [getM_setM]
  unfold befJ
  by_cases h : key = -1
  · rw [if_pos h, if_pos h]; rfl
  · rw [if_neg h, if_neg h]
    simp [getM]
theorem befJ_none {start : Int} {done : List (Option Int)} {key : Int} : befJ start (done ++ [none]) key = befJ start done key := by
  unfold befJ
  split
  · rfl
  split
  · rw [List.getD_eq_getElem?_getD, List.getD_eq_getElem?_getD]
    by_cases h : key.toNat < done.length
    · rw [List.getElem?_append_left h]
    · rw [List.getElem?_append_right (by omega), List.getElem?_eq_none (l := done) (by omega)]
      by_cases h2 : key.toNat = done.length
      · rw [h2, Nat.sub_self]; rfl
      · rw [List.getElem?_eq_none (by simp; omega)]
  · rfl
theorem mapJ_none {start : Int} {done : List (Option Int)} {M : List (Int × Value)} (h : MapJ start done M) : MapJ start (done ++ [none]) M := fun key => by rw [befJ_none]; exact h key
theorem mapJ_some {start : Int} {done : List (Option Int)} {M : List (Int × Value)} {k : Nat} {t : Int} (h : MapJ start done M) (hk : done.length = k) : MapJ start (done ++ [some t]) (setM M (k : Int) (.int .i64 t)) := by
  intro key
  rw [getM_setM]
  by_cases e : key = (k : Int)
  · rw [if_pos e]
    unfold befJ
    rw [if_neg (by omega), if_pos (by omega), List.getD_eq_getElem?_getD, List.getElem?_append_right (by omega), show key.toNat - done.length = 0 by omega]
    rfl
  · rw [if_neg e, h key]
    unfold befJ
    split
    · rfl
    split
    · rw [List.getD_eq_getElem?_getD, List.getD_eq_getElem?_getD]
      by_cases h2 : key.toNat < done.length
      · rw [List.getElem?_append_left h2]
      · rw [List.getElem?_append_right (by omega), List.getElem?_eq_none (l := done) (by omega), List.getElem?_eq_none (by simp; omega)]
    · rfl
theorem mapJ_in {start : Int} {done : List (Option Int)} {M : List (Int × Value)} {k : Nat} {t : Int} {a : Int} (h : MapJ start done M) (hk : done.length = k) (ha : a < k) : getM (setM M (k : Int) (.int .i64 t)) a = (befJ start done a).map (Value.int .i64) := by
  rw [getM_setM, if_neg (by omega)]
  exact h a
theorem erase_flat {α : Type} {enc : α → List Value} {k : Nat} (hk : ∀ x, (enc x).length = k) {l : List α} {i : Nat} (hi : i < l.length) : (splice (l.flatMap enc) (i * k) ((l.flatMap enc).drop ((i + 1) * k))).take ((l.length - 1) * k) = (l.eraseIdx i).flatMap enc := by
  have e1 : (l.flatMap enc).drop ((i + 1) * k) = (l.drop (i + 1)).flatMap enc := by
    conv => lhs; rw [← List.take_append_drop (i + 1) l, List.flatMap_append]
    rw [List.drop_left']
    rw [flat_len hk, List.length_take, Nat.min_eq_left (by omega)]
  have e2 : (l.flatMap enc).take (i * k) = (l.take i).flatMap enc := by
    conv => lhs; rw [← List.take_append_drop i l, List.flatMap_append]
    rw [List.take_left']
    rw [flat_len hk, List.length_take, Nat.min_eq_left (by omega)]
  rw [List.eraseIdx_eq_take_drop_succ, List.flatMap_append]
  unfold splice
  rw [e1, e2, List.take_left']
  rw [List.length_append, flat_len hk, flat_len hk, List.length_take, List.length_drop, ← Nat.add_mul]
  congr 1
  omega
theorem ords_one (l : List Ord) : (l.flatMap ordC).all (·.oneCell') = true := by
  induction l with
  | nil => rfl
  | cons x l ih => rw [List.flatMap_cons, List.all_append, ih]; rfl
theorem befJ_bd {start : Int} {done : List (Option Int)} {a b : Int} (hs : 0 ≤ start ∧ start ≤ 100000) (hd : ∀ t, some t ∈ done → 0 ≤ t ∧ t ≤ 100000) (h : befJ start done a = some b) : 0 ≤ b ∧ b ≤ 100000 := by
  unfold befJ at h
  split at h
  · cases h; exact hs
  split at h
  · rcases getD_mem (l := done) (i := a.toNat) (d := (none : Option Int)) with hm | hm
    · rw [h] at hm; exact hd b hm
    · rw [hm] at h; cases h
  · cases h
theorem judN_done {s : Scr} {start : Int} {l : List Ord} (hl : ∀ o ∈ l, 0 ≤ o.tm ∧ o.tm ≤ 100000) : ∀ k t, some t ∈ (judN s start l k).done → 0 ≤ t ∧ t ≤ 100000
  | 0, t, h => by cases h
  | k + 1, t, h => by
    rw [judN] at h
    unfold judS at h
    split at h
    · rcases List.mem_append.1 h with h | h
      · exact judN_done hl k t h
      · cases List.mem_singleton.1 h
    · rcases List.mem_append.1 h with h | h
      · exact judN_done hl k t h
      · have e := List.mem_singleton.1 h
        rcases getD_mem (l := (judN s start l k).left) (i := (idxF (hitO (stpAt s k)) (judN s start l k).left 0).toNat) (d := nOrd) with hm | hm
        · have := hl _ ((judN_left s start l k).2 _ hm)
          simp only [Option.some.injEq] at e
          rw [e]; exact this
        · simp only [Option.some.injEq] at e
          rw [hm] at e
          rw [e]; decide
theorem leftJ_ok {c : Crew} {acts : List Acn} {start : Int} (h : playE c acts = 0) : (leftJ c acts start).length ≤ 60 ∧ ∀ o ∈ leftJ c acts start, 0 ≤ o.tm ∧ o.tm ≤ 100000 := by
  obtain ⟨hc, hn, hall⟩ := play_ok h
  have hr := (plN_inv hc hall _ (Nat.le_refl _)).1
  unfold leftJ
  have e : playO c acts = (plN c acts acts.length).2.ords := if_neg (not_not_intro h)
  rw [e]
  refine ⟨Nat.le_trans (List.length_filter_le ..) (Nat.le_trans hr.nord hn), fun o ho => (hr.ords o (List.mem_filter.1 ho).1).2.2.2.2⟩
end Bx
namespace Bx
open Go Go.RowKit
abbrev LMp := List (Int × Value)
theorem fltJ_1 {i : Nat} {x : Stp} {own : Int} {b : Option Int} (h : b.isSome = true) (h2 : own < b.getD 0 + x.least) : fltJ i x own b = [(208, (i : Int))] := by
  cases b with
  | none => cases h
  | some b => exact if_pos h2
theorem fltJ_2 {i : Nat} {x : Stp} {own : Int} {b : Option Int} (h : b.isSome = true) (h2 : ¬ own < b.getD 0 + x.least) (h3 : b.getD 0 + x.most < own) : fltJ i x own b = [(209, (i : Int))] := by
  cases b with
  | none => cases h
  | some b => unfold fltJ; exact (if_neg h2).trans (if_pos h3)
theorem fltJ_0 {i : Nat} {x : Stp} {own : Int} {b : Option Int} (h1 : b.isSome = false ∨ ¬ own < b.getD 0 + x.least) (h2 : b.isSome = false ∨ ¬ b.getD 0 + x.most < own) : fltJ i x own b = [] := by
  cases b with
  | none => rfl
  | some b =>
    unfold fltJ
    exact (if_neg (h1.resolve_left (by simp))).trans (if_neg (h2.resolve_left (by simp)))
theorem fltJ_or {b : Option Int} {p : Prop} (h : b.isSome = false ∨ ¬ p) (hs : b.isSome = true) : ¬ p := h.resolve_left (by rw [hs]; decide)
theorem befJ_getD {start : Int} {done : List (Option Int)} {a : Int} (hs : 0 ≤ start ∧ start ≤ 100000) (hd : ∀ t, some t ∈ done → 0 ≤ t ∧ t ≤ 100000) : 0 ≤ (befJ start done a).getD 0 ∧ (befJ start done a).getD 0 ≤ 100000 := by
  cases h : befJ start done a with
  | none => decide
  | some b => exact befJ_bd hs hd h
end Bx

/- part Ck42 -/
namespace Go.Proofs.YtghgnofilbnbaaaGreat
open Go Bx
/-- slices.IndexFunc   barrage/api.CrOrder,barrage/api.CrOrder  -/
theorem c_IndexOrd {l : List Bx.Ord} {p : Bx.Ord → Bool} {v : Value} {g : Nat} {cl : List Value} {w0 : World} (hsl : Sl w0 5 ROrd v l) (hcall : ∀ ys w, (callFunc g ys).run Tryz.prog w = .ok (.enter g ys) w) (hp : ∀ x w, x ∈ l → Ext w0 w → CV Tryz.prog g (.agg (ordC x).toArray :: cl).toArray w (.bool (p x))) : CV Tryz.prog 28 #[v, .func (.func g) #[] cl.toArray] w0 (.int .i64 (idxF p l 0)) := by
  obtain ⟨a, cap, rfl, hcap, hmx, hel⟩ := hsl
  refine enter Tryz.func28 rfl Tryz.ntmps28 rfl ?_
  have hS := St.start w0
  refine seq ?_
  refine region ?_
  refine sv (yAsg rfl) ?_
  refine nil ?_
  show Code.wp _ _ _ _ _
  refine seq ?_
  refine seq ?_
  refine region ?_
  refine sv (yMove rfl) ?_
  refine sv (yLen rfl Tryz.underlying33) ?_
  refine sv (yMove rfl) ?_
  refine nil ?_
  show Code.wp _ _ _ _ _
  refine block ?_
  refine loop (fun f w zz => ∃ (k : Nat), f 0 = .slice a l.length cap ∧ f 1 = .func (.func g) #[] cl.toArray ∧ f 7 = .int .i64 (l.length : Int) ∧ f 8 = .int .i64 (k : Int) ∧ StX [] w0 w [] ∧ (k ≤ l.length) ∧ (idxF p l 0 = idxF p (l.drop k) k) ∧ zz = l.length - k) _ ⟨_, rfl, 0, rfl, rfl, rfl, rfl, hS, (Nat.zero_le _), (rfl), rfl⟩ ?_
  clear hS
  rintro f w _ ⟨k, h0, h1, h7, h8, hS, hk, hI, rfl⟩
  refine seq ?_
  refine region ?_
  refine sv (yLss h8 h7) ?_
  refine nil ?_
  show Code.wp _ _ _ _ _
  refine seq ?_
  refine cond rfl (fun c9 => ?_) (fun c9 => ?_)
  ·
    simp only [Bool.and_eq_true, Bool.or_eq_true, Bool.and_eq_false_iff, Bool.or_eq_false_iff, decide_eq_true_eq, decide_eq_false_iff_not, Bool.not_eq_true, Bool.not_eq_false, Bool.not_not, Bool.not_eq_eq_eq_not, Bool.not_true, Bool.not_false, Bool.false_eq_true, Bool.true_eq_false, ne_eq, Decidable.not_not, not_false_eq_true, not_true_eq_false] at c9
    refine skip ?_
    show Code.wp _ _ _ _ _
    refine seq ?_
    refine block ?_
    refine seq ?_
    refine region ?_
    refine sv (yMove h8) ?_
    refine sv (yAsg rfl) ?_
    refine nil ?_
    show Code.wp _ _ _ _ _
    refine seq ?_
    refine region ?_
    obtain ⟨x, hx, hd⟩ := drop_of (l := l) (k := k) (by omega)
    obtain ⟨b, o, cs, ha, hlen, hcs, hR⟩ := hel k (by omega)
    obtain rfl : x = l[k] := (List.getElem?_eq_some_iff.1 hx).2.symm
    obtain ⟨rfl, -⟩ := hR
    refine sv (yMove h1) ?_
    refine sv (yMove h0) ?_
    refine sv (yMove rfl) ?_
    refine sv (yIxa rfl ha rfl Tryz.runUnderlying33 Tryz.sizeOf66 (by omega) (by omega)) ?_
    refine sv (yLdA rfl Tryz.isAgg66 Tryz.sizeOf66 (hcs.ext hS.ext) rfl) ?_
    refine scallf rfl hcall (.cons rfl .nil) (hp _ _ (List.getElem_mem _) hS.ext) ?_
    rintro _ w ⟨rfl, hE⟩; replace hS := hS.step hE; clear hE
    refine nil ?_
    show Code.wp _ _ _ _ _
    refine cond rfl (fun c16 => ?_) (fun c16 => ?_)
    ·
      refine seq ?_
      refine region ?_
      refine sv (yMove rfl) ?_
      refine sv (yAsg rfl) ?_
      refine nil ?_
      show Code.wp _ _ _ _ _
      refine wp_ret (blockR (thenR (thenR (blockR (thenR ?_)))))
      exact retV (res1 rfl (by rw [hI, hd, idxF, if_pos c16]; rfl)) hS.ext
    ·
      refine skip ?_
      show Code.wp _ _ _ _ _
      refine region ?_
      refine sv (yAdd h8 rfl ⟨by omega, by omega⟩) ?_
      refine sv (yMove rfl) ?_
      refine nil ?_
      exact ⟨_, _, rfl, ⟨k + 1, h0, h1, h7, rfl, hS, (by omega), (by rw [hI, hd, idxF, if_neg (by simp [c16])]; rfl), rfl⟩, by omega⟩
  ·
    simp only [Bool.and_eq_true, Bool.or_eq_true, Bool.and_eq_false_iff, Bool.or_eq_false_iff, decide_eq_true_eq, decide_eq_false_iff_not, Bool.not_eq_true, Bool.not_eq_false, Bool.not_not, Bool.not_eq_eq_eq_not, Bool.not_true, Bool.not_false, Bool.false_eq_true, Bool.true_eq_false, ne_eq, Decidable.not_not, not_false_eq_true, not_true_eq_false] at c9
    refine exit ?_
    show Code.wp _ _ _ _ _
    refine seq ?_
    refine region ?_
    refine sv (yAsg rfl) ?_
    refine nil ?_
    show Code.wp _ _ _ _ _
    obtain rfl : k = l.length := by omega
    refine wp_ret ?_
    exact retV (res1 rfl (by rw [hI, List.drop_length]; rfl)) hS.ext
set_option maxHeartbeats 2000000 in
/-- slices.DeleteFunc   barrage/api.CrOrder,barrage/api.CrOrder  -/
theorem c_DeleteOrd {l : List Bx.Ord} {p : Bx.Ord → Bool} {a : Option Addr} {cap g : Nat} {cl : List Value} {w0 : World} (hr : w0.ownsRow 0 66 5 (.slice a l.length cap) l.length (l.flatMap ordC)) (hcall : ∀ ys w, (callFunc g ys).run Tryz.prog w = .ok (.enter g ys) w) (hp : ∀ x w, x ∈ l → ExtX (Value.slice a l.length cap).ownBlock.toList w0 w → CV Tryz.prog g (.agg (ordC x).toArray :: cl).toArray w (.bool (p x))) (hlen : l.length ≤ 1000) : CE Tryz.prog 26 #[.slice a l.length cap, .func (.func g) #[] cl.toArray] w0 (fun u w' => u = .slice a (l.filter fun x => !p x).length cap ∧ StX (Value.slice a l.length cap).ownBlock.toList w0 w' [rowI (.slice a (l.filter fun x => !p x).length cap) 66 5 (l.filter fun x => !p x).length ((l.filter fun x => !p x).flatMap ordC)]) := by
  refine enter Tryz.func26 rfl Tryz.ntmps26 rfl ?_
  have hS := StX.startR hr
  refine seq ?_
  refine region ?_
  refine sv (yAsg rfl) ?_
  refine nil ?_
  show Code.wp _ _ _ _ _
  refine seq ?_
  refine region ?_
  refine sv (yMove rfl) ?_
  refine sv (yMove rfl) ?_
  refine scall Tryz.call28 (.cons rfl (.cons rfl .nil)) (c_IndexOrd (sl_ords (hS.row (.slice a l.length cap)) rfl) hcall (fun x w hx e => hp x w hx (hS.extx.trans e))) ?_
  rintro _ w ⟨rfl, hE⟩; replace hS := hS.step hE; clear hE
  have hix := idxF_spec p l 0 (Int.le_refl 0)
  generalize idxF p l 0 = ix at hix ⊢
  refine sv (yAsg rfl) ?_
  refine nil ?_
  show Code.wp _ _ _ _ _
  refine seq ?_
  refine seq ?_
  refine region ?_
  refine sv (yMove rfl) ?_
  refine sv (yEql rfl rfl) ?_
  refine nil ?_
  show Code.wp _ _ _ _ _
  refine cond rfl (fun c12 => ?_) (fun c12 => ?_)
  ·
    simp only [Bool.and_eq_true, Bool.or_eq_true, Bool.and_eq_false_iff, Bool.or_eq_false_iff, decide_eq_true_eq, decide_eq_false_iff_not, Bool.not_eq_true, Bool.not_eq_false, Bool.not_not, Bool.not_eq_eq_eq_not, Bool.not_true, Bool.not_false, Bool.false_eq_true, Bool.true_eq_false, ne_eq, Decidable.not_not, not_false_eq_true, not_true_eq_false] at c12
    have hfl : (l.filter fun x => !p x) = l := by
      rcases hix with ⟨-, h⟩ | ⟨k, -, h, -⟩
      · exact h
      · omega
    refine seq ?_
    refine region ?_
    refine sv (yMove rfl) ?_
    refine sv (yAsg rfl) ?_
    refine nil ?_
    show Code.wp _ _ _ _ _
    refine wp_ret (thenR ?_)
    refine retQ (res1 rfl rfl) ?_
    rw [hfl]
    exact ⟨rfl, hS⟩
  ·
    simp only [Bool.and_eq_true, Bool.or_eq_true, Bool.and_eq_false_iff, Bool.or_eq_false_iff, decide_eq_true_eq, decide_eq_false_iff_not, Bool.not_eq_true, Bool.not_eq_false, Bool.not_not, Bool.not_eq_eq_eq_not, Bool.not_true, Bool.not_false, Bool.false_eq_true, Bool.true_eq_false, ne_eq, Decidable.not_not, not_false_eq_true, not_true_eq_false] at c12
    obtain ⟨i0, hi0, hie, hi1, z, hz, hpz⟩ := hix.resolve_left (fun h => c12 h.1)
    obtain ⟨gb, rfl, -⟩ := row_get (hS.row (.slice a l.length cap)) (by omega)
    obtain rfl : ix = (i0 : Int) := by omega
    have hcap : l.length ≤ cap := by
      obtain ⟨g2, c2, e2, h2, -⟩ := row_some (hS.row (.slice (some ⟨gb, 0, none⟩) l.length cap)) (by omega)
      obtain ⟨-, rfl⟩ := slice_inj e2
      exact h2
    refine skip ?_
    show Code.wp _ _ _ _ _
    refine seq ?_
    refine seq ?_
    refine region ?_
    refine sv (yMove rfl) ?_
    refine sv (yAdd rfl rfl ⟨by omega, by omega⟩) ?_
    refine sv (yAsg rfl) ?_
    refine nil ?_
    show Code.wp _ _ _ _ _
    refine block ?_
    have htl : (l.take i0).length = i0 := by simp; omega
    refine loop (fun f w zz => ∃ (ks js : LOrd) (j : Nat), f 0 = .slice (some ⟨gb, 0, none⟩) l.length cap ∧ f 1 = .func (.func g) #[] cl.toArray ∧ f 5 = .int .i64 (ks.length : Int) ∧ f 6 = .int .i64 (j : Int) ∧ StX (Value.slice (some ⟨gb, 0, none⟩) l.length cap).ownBlock.toList w0 w ([rowI (.slice (some ⟨gb, 0, none⟩) l.length cap) 66 5 l.length ((ks ++ js ++ l.drop j).flatMap ordC)]) ∧ (j ≤ l.length) ∧ (ks.length + js.length = j) ∧ (js ≠ []) ∧ ((l.filter fun x => !p x) = ks ++ (l.drop j).filter fun x => !p x) ∧ zz = l.length - j) _ ⟨_, rfl, l.take i0, [z], i0 + 1, rfl, rfl, (by rw [htl]; exact rfl), rfl, (by rw [cut_at hz]; exact hS), (by omega), (by rw [htl]; rfl), (by simp), (filter_at hz hi1 hpz), rfl⟩ ?_
    clear hS
    rintro f w _ ⟨ks, js, j, h0, h1, h5, h6, hS, hj, hl, hne, hI, rfl⟩
    refine seq ?_
    refine seq ?_
    refine region ?_
    refine sv (yMove h6) ?_
    refine sv (yMove h0) ?_
    refine sv (yLen rfl Tryz.underlying33) ?_
    refine sv (yLss rfl rfl) ?_
    refine nil ?_
    show Code.wp _ _ _ _ _
    refine cond rfl (fun c19 => ?_) (fun c19 => ?_)
    ·
      simp only [Bool.and_eq_true, Bool.or_eq_true, Bool.and_eq_false_iff, Bool.or_eq_false_iff, decide_eq_true_eq, decide_eq_false_iff_not, Bool.not_eq_true, Bool.not_eq_false, Bool.not_not, Bool.not_eq_eq_eq_not, Bool.not_true, Bool.not_false, Bool.false_eq_true, Bool.true_eq_false, ne_eq, Decidable.not_not, not_false_eq_true, not_true_eq_false] at c19
      obtain ⟨x, hx, hd⟩ := drop_of (l := l) (k := j) (by omega)
      refine skip ?_
      show Code.wp _ _ _ _ _
      refine seq ?_
      refine block ?_
      refine seq ?_
      refine region ?_
      refine sv (yMove h0) ?_
      refine sv (yMove h6) ?_
      refine sv (yIx0 rfl rfl Tryz.runUnderlying33 Tryz.sizeOf66 (by omega)) ?_
      refine sv (yLdA rfl Tryz.isAgg66 Tryz.sizeOf66 (flat_cells0 ordC_len (row_at (hS.row (.slice (some ⟨gb, 0, none⟩) l.length cap)) rfl (by omega)) (mid_get hl hx)) rfl) ?_
      refine salloc hS Tryz.zeroValue66 rfl ?_; clear hS; intro b7 w hS
      refine sst hS rfl rfl Tryz.sizeOf66 rfl rfl rfl rfl ?_; clear hS; intro w hS
      refine nil ?_
      show Code.wp _ _ _ _ _
      refine seq ?_
      refine region ?_
      refine sv (yMove h1) ?_
      refine sv (yLdBA rfl Tryz.isAgg66 Tryz.sizeOf66 (hS.at _) rfl rfl) ?_
      refine scallf rfl hcall (.cons rfl .nil) (hp x _ (List.mem_of_getElem? hx) hS.extx) ?_
      rintro _ w ⟨rfl, hE⟩; replace hS := hS.step hE; clear hE
      refine sv (yNot rfl) ?_
      refine nil ?_
      show Code.wp _ _ _ _ _
      refine cond rfl (fun c29 => ?_) (fun c29 => ?_)
      ·
        simp only [Bool.not_eq_true', Bool.not_eq_false', Bool.not_eq_true, Bool.not_eq_false] at c29
        refine seq ?_
        refine region ?_
        refine sv (yMove h0) ?_
        refine sv (yMove h5) ?_
        refine sv (yLdBA rfl Tryz.isAgg66 Tryz.sizeOf66 (hS.at _) rfl rfl) ?_
        refine sv (yIx0 rfl rfl Tryz.runUnderlying33 Tryz.sizeOf66 (by have := List.length_pos_iff.2 hne; omega)) ?_
        refine srst (m := l.length) (cap := cap) (sz := 5) (vs := ordC x) hS rfl rfl Tryz.sizeOf66 rfl rfl (by have := List.length_pos_iff.2 hne; omega) rfl ?_; clear hS; intro w hS
        refine nil ?_
        show Code.wp _ _ _ _ _
        refine region ?_
        refine sv (yMove h5) ?_
        refine sv (yAdd rfl rfl ⟨by omega, by omega⟩) ?_
        refine sv (yAsg rfl) ?_
        refine nil ?_
        show Code.wp _ _ _ _ _
        refine region ?_
        refine sv (yMove h6) ?_
        refine sv (yAdd rfl rfl ⟨by omega, by omega⟩) ?_
        refine sv (yAsg rfl) ?_
        refine nil ?_
        exact ⟨_, _, rfl, ⟨ks ++ [x], js.tail ++ [x], j + 1, h0, h1, (by rw [List.length_append]; exact rfl), rfl, (by rw [gap_outG ordC_len hx hne]; exact hS.sub (.cons _ (List.Sublist.refl _))), (by omega), (by simp; have := List.length_pos_iff.2 hne; omega), (by simp), (by rw [hI, hd, List.filter_cons_of_pos (by simpa using c29)]; simp), rfl⟩, by omega⟩
      ·
        simp only [Bool.not_eq_true', Bool.not_eq_false', Bool.not_eq_true, Bool.not_eq_false] at c29
        refine skip ?_
        show Code.wp _ _ _ _ _
        refine region ?_
        refine sv (yMove h6) ?_
        refine sv (yAdd rfl rfl ⟨by omega, by omega⟩) ?_
        refine sv (yAsg rfl) ?_
        refine nil ?_
        exact ⟨_, _, rfl, ⟨ks, js ++ [x], j + 1, h0, h1, h5, rfl, (by rw [gap_in hx]; exact hS.sub (.cons _ (List.Sublist.refl _))), (by omega), (by simp; omega), (by simp), (by rw [hI, hd, List.filter_cons_of_neg (by simp [c29])]), rfl⟩, by omega⟩
    ·
      simp only [Bool.and_eq_true, Bool.or_eq_true, Bool.and_eq_false_iff, Bool.or_eq_false_iff, decide_eq_true_eq, decide_eq_false_iff_not, Bool.not_eq_true, Bool.not_eq_false, Bool.not_not, Bool.not_eq_eq_eq_not, Bool.not_true, Bool.not_false, Bool.false_eq_true, Bool.true_eq_false, ne_eq, Decidable.not_not, not_false_eq_true, not_true_eq_false] at c19
      obtain rfl : j = l.length := by omega
      rw [List.drop_length] at hI
      have hfin : (l.filter fun x => !p x) = ks := by rw [hI]; simp
      refine exit ?_
      show Code.wp _ _ _ _ _
      refine seq ?_
      refine region ?_
      refine sv (yMove h0) ?_
      refine sv (yMove h5) ?_
      refine sv (yTail rfl rfl Tryz.underlying33 Tryz.sizeOf66 (by omega)) ?_
      refine sclear (i := ks.length) (m := l.length) hS rfl Tryz.underlying33 Tryz.zeroValue66 rfl (by decide) (by decide) (by omega) ?_; clear hS; intro w hS
      refine nil ?_
      show Code.wp _ _ _ _ _
      refine seq ?_
      refine region ?_
      refine sv (yMove h0) ?_
      refine sv (yMove h5) ?_
      refine sv (yHead ⟨_, rfl⟩ rfl rfl Tryz.underlying33 Tryz.sizeOf66 (by omega)) ?_
      refine sv (yAsg rfl) ?_
      refine nil ?_
      show Code.wp _ _ _ _ _
      refine wp_ret ?_
      refine retQ (res1 rfl rfl) ?_
      rw [hfin]
      rw [List.append_assoc, take_flatG ordC_len] at hS
      exact ⟨rfl, hS⟩
set_option maxHeartbeats 2000000 in
/-- slices.Delete   barrage/api.CrOrder,barrage/api.CrOrder  -/
theorem c_Del1Ord {l : List Bx.Ord} {gb cap i : Nat} {w0 : World} (hr : w0.ownsRow 0 66 5 (.slice (some ⟨gb, 0, none⟩) l.length cap) l.length (l.flatMap ordC)) (hi : i < l.length) (hlen : l.length ≤ 1000) : CE Tryz.prog 30 #[.slice (some ⟨gb, 0, none⟩) l.length cap, .int .i64 (i : Int), .int .i64 ((i : Int) + 1)] w0 (fun u w' => u = .slice (some ⟨gb, 0, none⟩) (l.eraseIdx i).length cap ∧ StX (Value.slice (some ⟨gb, 0, none⟩) l.length cap).ownBlock.toList w0 w' [rowI (.slice (some ⟨gb, 0, none⟩) (l.eraseIdx i).length cap) 66 5 (l.eraseIdx i).length ((l.eraseIdx i).flatMap ordC)]) := by
  refine enter Tryz.func30 rfl Tryz.ntmps30 rfl ?_
  have hS := StX.startR hr
  have hcap := row_cap hr
  refine seq ?_
  refine region ?_
  refine sv (yAsg rfl) ?_
  refine nil ?_
  show Code.wp _ _ _ _ _
  refine seq ?_
  refine region ?_
  refine sv (yMove rfl) ?_
  refine sv (yMove rfl) ?_
  refine sv (yMove rfl) ?_
  refine sv (yMove rfl) ?_
  refine sv (yLen rfl Tryz.underlying33) ?_
  refine s3 (i := i) (j := i + 1) (m := l.length) rfl rfl (rfl.trans (congrArg (Value.int .i64) (show (i : Int) + 1 = ((i + 1 : Nat) : Int) by omega))) rfl Tryz.underlying33 Tryz.sizeOf66 (by omega) (by omega) (by omega) ?_; intro v13
  refine nil ?_
  show Code.wp _ _ _ _ _
  refine seq ?_
  refine seq ?_
  refine region ?_
  refine sv (yMove rfl) ?_
  refine sv (yMove rfl) ?_
  refine sv (yEql rfl rfl) ?_
  refine nil ?_
  show Code.wp _ _ _ _ _
  refine cond rfl (fun c16 => ?_) (fun c16 => ?_)
  ·
    simp only [Bool.and_eq_true, Bool.or_eq_true, Bool.and_eq_false_iff, Bool.or_eq_false_iff, decide_eq_true_eq, decide_eq_false_iff_not, Bool.not_eq_true, Bool.not_eq_false, Bool.not_not, Bool.not_eq_eq_eq_not, Bool.not_true, Bool.not_false, Bool.false_eq_true, Bool.true_eq_false, ne_eq, Decidable.not_not, not_false_eq_true, not_true_eq_false] at c16
    exfalso; omega
  ·
    simp only [Bool.and_eq_true, Bool.or_eq_true, Bool.and_eq_false_iff, Bool.or_eq_false_iff, decide_eq_true_eq, decide_eq_false_iff_not, Bool.not_eq_true, Bool.not_eq_false, Bool.not_not, Bool.not_eq_eq_eq_not, Bool.not_true, Bool.not_false, Bool.false_eq_true, Bool.true_eq_false, ne_eq, Decidable.not_not, not_false_eq_true, not_true_eq_false] at c16
    refine skip ?_
    show Code.wp _ _ _ _ _
    refine seq ?_
    refine region ?_
    refine sv (yMove rfl) ?_
    refine sv (yLen rfl Tryz.underlying33) ?_
    refine sv (yAsg rfl) ?_
    refine nil ?_
    show Code.wp _ _ _ _ _
    refine seq ?_
    refine region_tail mixed 6 (by kernel_rfl) hS ?_
    refine qv (fun w hS => (yMove rfl)) ?_
    refine qv (fun w hS => (yMove rfl)) ?_
    refine qv (fun w hS => (yTo rfl rfl Tryz.underlying33 Tryz.sizeOf66 (by omega))) ?_
    refine qv (fun w hS => (yMove rfl)) ?_
    refine qv (fun w hS => (yMove rfl)) ?_
    refine qv (fun w hS => (yTail (i := i + 1) rfl (rfl.trans (congrArg (Value.int .i64) (show (i : Int) + 1 = ((i + 1 : Nat) : Int) by omega))) Tryz.underlying33 Tryz.sizeOf66 (by omega))) ?_
    clear hS; refine qtl (fun w hS => ?_)
    refine sappIn (size := 5) (j := i + 1) (m := l.length) hS rfl rfl Tryz.underlying33 ti66 rfl (by omega) (by omega) (ords_one l) ?_; clear hS; intro w hS
    refine sv (yAsg rfl) ?_
    refine nil ?_
    show Code.wp _ _ _ _ _
    refine seq ?_
    refine region ?_
    refine sv (yMove rfl) ?_
    refine sv (yMove rfl) ?_
    refine sv (yLen rfl Tryz.underlying33) ?_
    refine sv (yMove rfl) ?_
    refine sv (yMid (i := l.length - 1) (j := l.length) rfl (rfl.trans (congrArg (Value.int .i64) (by omega))) rfl Tryz.underlying33 Tryz.sizeOf66 (by omega) (by omega)) ?_
    refine sclear (i := l.length - 1) (m := l.length) hS rfl Tryz.underlying33 Tryz.zeroValue66 rfl (by decide) (by decide) (by omega) ?_; clear hS; intro w hS
    refine nil ?_
    show Code.wp _ _ _ _ _
    refine seq ?_
    refine region ?_
    refine sv (yMove rfl) ?_
    refine sv (yAsg rfl) ?_
    refine nil ?_
    show Code.wp _ _ _ _ _
    refine wp_ret ?_
    refine retQ (res1 rfl rfl) ?_
    have hel : (l.eraseIdx i).length = l.length - 1 := List.length_eraseIdx_of_lt hi
    rw [hel, show i + (l.length - (i + 1)) = l.length - 1 by omega]
    rw [erase_flat ordC_len hi] at hS
    exact ⟨rfl, hS⟩
end Go.Proofs.YtghgnofilbnbaaaGreat

/- part Ck43 -/
namespace Go.Proofs.YtghgnofilbnbaaaGreat
open Go Bx
/-- barrage/crew.Judge closure 1 -/
theorem c_jud1 {o : Bx.Ord} {start : Int} {b : Nat} {T : TypeId} {w0 : World} (hb : w0.heap[b]? = some (.cells [.int .i64 start].toArray T (0, 0))) : CV Tryz.prog 27 #[.agg (ordC o).toArray, .pointer (some ⟨b, 0, none⟩)] w0 (.bool (decide (o.tm < start))) := by
  refine enter Tryz.func27 rfl Tryz.ntmps27 rfl ?_
  have hS := St.start w0
  refine seq ?_
  refine region ?_
  refine sbox hS rfl rfl ?_; clear hS; intro b2 w hS
  refine sv (yAsg rfl) ?_
  refine nil ?_
  show Code.wp _ _ _ _ _
  refine seq ?_
  refine region ?_
  refine sv (fa66_4 rfl) ?_
  refine sv (yLdB rfl Tryz.isAgg3 (hS.at _) rfl) ?_
  refine sv (yLdB rfl Tryz.isAgg3 (hS.ext.get hb) rfl) ?_
  refine sv (yLss rfl rfl) ?_
  refine sv (yAsg rfl) ?_
  refine nil ?_
  show Code.wp _ _ _ _ _
  refine wp_ret ?_
  exact retV (res1 rfl rfl) hS.ext
/-- barrage/crew.Judge closure 2 -/
theorem c_jud2 {o : Bx.Ord} {x : Stp} {b : Nat} {T : TypeId} {w0 : World} (hb : w0.heap[b]? = some (.cells (stpC x).toArray T (0, 0))) : CV Tryz.prog 29 #[.agg (ordC o).toArray, .pointer (some ⟨b, 0, none⟩)] w0 (.bool (hitO x o)) := by
  refine enter Tryz.func29 rfl Tryz.ntmps29 rfl ?_
  have hS := St.start w0
  refine seq ?_
  refine region ?_
  refine sbox hS rfl rfl ?_; clear hS; intro b2 w hS
  refine sv (yAsg rfl) ?_
  refine nil ?_
  show Code.wp _ _ _ _ _
  refine seq ?_
  refine region ?_
  refine sv (fa66_2 rfl) ?_
  refine sv (yLdB rfl Tryz.isAgg3 (hS.at _) rfl) ?_
  refine sv (fa78_0 rfl) ?_
  refine sv (yLdB rfl Tryz.isAgg3 (hS.ext.get hb) rfl) ?_
  refine sv (yEql rfl rfl) ?_
  refine sv (yMove rfl) ?_
  refine sg rfl rfl rfl (fun g => (fa66_3 rfl)) (fun v10 g10 => ?_)
  refine sg rfl rfl rfl (fun g => (yLdB (g10.1 g) Tryz.isAgg3 (hS.at _) rfl)) (fun v11 g11 => ?_)
  refine sg rfl rfl rfl (fun g => (fa78_1 rfl)) (fun v12 g12 => ?_)
  refine sg rfl rfl rfl (fun g => (yLdB (g12.1 g) Tryz.isAgg3 (hS.ext.get hb) rfl)) (fun v13 g13 => ?_)
  refine sg rfl rfl rfl (fun g => (yEql (g11.1 g) (g13.1 g))) (fun v14 g14 => ?_)
  refine sv (yAnd rfl (fun hB => (g14.1 hB)) rfl) ?_
  refine sv (yAsg rfl) ?_
  refine nil ?_
  show Code.wp _ _ _ _ _
  refine wp_ret ?_
  exact retV (res1 rfl rfl) hS.ext
set_option maxHeartbeats 8000000 in
/-- barrage/crew.Judge -/
theorem c_Judge {c : Crew} {cs ss : List Value} {s : Scr} {start : Int} {acts : List Acn} {av : Value} {w0 : World} (h : RCrew w0 cs c) (hs : RScr w0 ss s) (hsi : I64 start) (ha : Sl w0 6 RAct av acts) : CE Tryz.prog 15 #[.agg cs.toArray, .agg ss.toArray, .int .i64 start, av] w0 (fun u w' => ∃ lv, u = .tuple #[lv, .int .i64 (judE c s start acts)] ∧ St w0 w' [rowI lv 52 2 (judL c s start acts).length ((judL c s start acts).flatMap pC)]) := by
  obtain ⟨ov, kv, nv, rfl, hso, hsk, hsn, hrm⟩ := id h
  obtain ⟨a, cap, rfl, hcap, hmx, hel⟩ := id hso
  obtain ⟨sv, rfl, hsz, hst⟩ := id hs
  obtain ⟨ax, cps, rfl, hscap, hsmx, hels⟩ := id hst
  obtain ⟨aa, ca, rfl, -⟩ := id ha
  refine enter Tryz.func15 rfl Tryz.ntmps15 rfl ?_
  have hS := St.start w0
  refine seq ?_
  refine region ?_
  refine sbox hS rfl rfl ?_; clear hS; intro b4 w hS
  refine sbox hS rfl rfl ?_; clear hS; intro b5 w hS
  refine sbox hS rfl rfl ?_; clear hS; intro b6 w hS
  refine sv (yAsg rfl) ?_
  refine sv (yAsg rfl) ?_
  refine nil ?_
  show Code.wp _ _ _ _ _
  refine seq ?_
  refine seq ?_
  refine region ?_
  refine sv (yLdBA rfl Tryz.isAgg26 Tryz.sizeOf26 (hS.at _) rfl rfl) ?_
  refine sv (yLdBA rfl Tryz.isAgg45 Tryz.sizeOf45 (hS.at _) rfl rfl) ?_
  refine scall Tryz.call24 (.cons rfl (.cons rfl .nil)) (c_CheckScript (h.ext hS.ext) (hs.ext hS.ext)) ?_
  rintro _ w ⟨rfl, hE⟩; replace hS := hS.step hE; clear hE
  refine sv (yMove rfl) ?_
  refine sv (yExt rfl rfl) ?_
  refine sv (yExt rfl rfl) ?_
  refine sv (yAsg rfl) ?_
  refine nil ?_
  show Code.wp _ _ _ _ _
  refine seq ?_
  refine region ?_
  refine sv (yMove rfl) ?_
  refine sv (yNeq rfl rfl) ?_
  refine nil ?_
  show Code.wp _ _ _ _ _
  refine cond rfl (fun c25 => ?_) (fun c25 => ?_)
  ·
    simp only [Bool.and_eq_true, Bool.or_eq_true, Bool.and_eq_false_iff, Bool.or_eq_false_iff, decide_eq_true_eq, decide_eq_false_iff_not, Bool.not_eq_true, Bool.not_eq_false, Bool.not_not, Bool.not_eq_eq_eq_not, Bool.not_true, Bool.not_false, Bool.false_eq_true, Bool.true_eq_false, ne_eq, Decidable.not_not, not_false_eq_true, not_true_eq_false] at c25
    refine seq ?_
    refine region ?_
    refine sv (yMove rfl) ?_
    refine sv (yAsg rfl) ?_
    refine sv (yAsg rfl) ?_
    refine nil ?_
    show Code.wp _ _ _ _ _
    refine wp_ret (thenR ?_)
    refine retQ (res2 rfl rfl rfl) ?_
    exact ⟨_, by (rw [(judE_1 c25).1]; try rfl), by rw [(judE_1 c25).2]; exact (hS.nilrow 52 2).sub (.cons_cons _ (List.nil_sublist _))⟩
  ·
    simp only [Bool.and_eq_true, Bool.or_eq_true, Bool.and_eq_false_iff, Bool.or_eq_false_iff, decide_eq_true_eq, decide_eq_false_iff_not, Bool.not_eq_true, Bool.not_eq_false, Bool.not_not, Bool.not_eq_eq_eq_not, Bool.not_true, Bool.not_false, Bool.false_eq_true, Bool.true_eq_false, ne_eq, Decidable.not_not, not_false_eq_true, not_true_eq_false] at c25
    have hok := scrOk_of c25
    have hlen := hok.len
    refine skip ?_
    show Code.wp _ _ _ _ _
    refine seq ?_
    refine seq ?_
    refine region ?_
    refine sv (yLdB rfl Tryz.isAgg3 (hS.at _) rfl) ?_
    refine scall Tryz.call25 (.cons rfl .nil) c_never ?_
    rintro _ w ⟨rfl, hE⟩; replace hS := hS.step hE; clear hE
    refine nil ?_
    show Code.wp _ _ _ _ _
    refine cond rfl (fun c28 => ?_) (fun c28 => ?_)
    ·
      refine seq ?_
      refine region ?_
      refine sv (yAsg rfl) ?_
      refine sv (yAsg rfl) ?_
      refine nil ?_
      show Code.wp _ _ _ _ _
      refine wp_ret (thenR ?_)
      refine retQ (res2 rfl rfl rfl) ?_
      exact ⟨_, by (rw [(judE_2 c25 c28).1]; try rfl), by rw [(judE_2 c25 c28).2]; exact (hS.nilrow 52 2).sub (.cons_cons _ (List.nil_sublist _))⟩
    ·
      refine skip ?_
      show Code.wp _ _ _ _ _
      refine seq ?_
      refine region ?_
      refine sv (yLdBA rfl Tryz.isAgg26 Tryz.sizeOf26 (hS.at _) rfl rfl) ?_
      refine sv (yMove rfl) ?_
      refine scall Tryz.call8 (.cons rfl (.cons rfl .nil)) (c_Orders (h.ext hS.ext) (ha.ext RAct.stays hS.ext)) ?_
      rintro _ w ⟨ov, rfl, hM⟩; replace hS := hS.call1 hM; clear hM
      obtain ⟨ao, co, rfl⟩ := row_shape (hS.row ov)
      refine sv (yMove rfl) ?_
      refine sv (yExt rfl rfl) ?_
      refine sv (yExt rfl rfl) ?_
      refine sv (yAsg rfl) ?_
      refine sv (yAsg rfl) ?_
      refine nil ?_
      show Code.wp _ _ _ _ _
      refine seq ?_
      refine seq ?_
      refine region ?_
      refine sv (yMove rfl) ?_
      refine sv (yNeq rfl rfl) ?_
      refine nil ?_
      show Code.wp _ _ _ _ _
      refine cond rfl (fun c36 => ?_) (fun c36 => ?_)
      ·
        simp only [Bool.and_eq_true, Bool.or_eq_true, Bool.and_eq_false_iff, Bool.or_eq_false_iff, decide_eq_true_eq, decide_eq_false_iff_not, Bool.not_eq_true, Bool.not_eq_false, Bool.not_not, Bool.not_eq_eq_eq_not, Bool.not_true, Bool.not_false, Bool.false_eq_true, Bool.true_eq_false, ne_eq, Decidable.not_not, not_false_eq_true, not_true_eq_false] at c36
        refine seq ?_
        refine region ?_
        refine sv (yMove rfl) ?_
        refine sv (yAsg rfl) ?_
        refine sv (yAsg rfl) ?_
        refine nil ?_
        show Code.wp _ _ _ _ _
        refine wp_ret (thenR ?_)
        refine retQ (res2 rfl rfl rfl) ?_
        exact ⟨_, by (rw [(judE_3 c25 c28 c36).1]; try rfl), by rw [(judE_3 c25 c28 c36).2]; exact (hS.nilrow 52 2).sub (.cons_cons _ (List.nil_sublist _))⟩
      ·
        simp only [Bool.and_eq_true, Bool.or_eq_true, Bool.and_eq_false_iff, Bool.or_eq_false_iff, decide_eq_true_eq, decide_eq_false_iff_not, Bool.not_eq_true, Bool.not_eq_false, Bool.not_not, Bool.not_eq_eq_eq_not, Bool.not_true, Bool.not_false, Bool.false_eq_true, Bool.true_eq_false, ne_eq, Decidable.not_not, not_false_eq_true, not_true_eq_false] at c36
        obtain ⟨hlf, hlt⟩ := leftJ_ok (start := start) c36
        have hst2 := outB_false.1 c28
        have hfin := judE_0 c25 c28 c36
        have hpo : (playO c acts).length ≤ 1000 := by rw [playO_ok c36]; obtain ⟨h1, h2, h3⟩ := play_ok c36; have := (plN_inv h1 h3 _ (Nat.le_refl _)).1.nord; omega
        refine skip ?_
        show Code.wp _ _ _ _ _
        refine seq ?_
        refine cutK (fun f => f 5 = .pointer (some ⟨b5, 0, none⟩) ∧ f 6 = .pointer (some ⟨b6, 0, none⟩) ∧ f 8 = .slice none 0 0 ∧ f 10 = .slice ao (playO c acts).length co ∧ True) ⟨rfl, rfl, rfl, rfl, trivial⟩ ?_
        rintro f ⟨h5, h6, h8, h10, -⟩
        refine region ?_
        replace hS := hS.sub (.cons_cons _ (.cons_cons _ (.cons_cons _ (List.nil_sublist _))))
        have hb6 : b6 ∉ (Value.slice ao (playO c acts).length co).ownBlock.toList := fun hm => (hS.sub (.cons_cons _ (.cons_cons _ (List.nil_sublist _)))).apart2 hm (by simp [cellI])
        refine sv (yMove h10) ?_
        refine sv (yFn (.cons h6 .nil)) ?_
        refine scall Tryz.call26 (.cons rfl (.cons rfl .nil)) (c_DeleteOrd (p := fun o => decide (o.tm < start)) (cl := [.pointer (some ⟨b6, 0, none⟩)]) (hS.row (.slice ao (playO c acts).length co)) Tryz.call27 (fun x w _ e => c_jud1 (e.get (hS.at b6) hb6)) hpo) ?_
        rintro u w ⟨hu, hM⟩
        have hu2 : u = .slice ao (leftJ c acts start).length co := hu
        subst hu2
        clear hu
        replace hS := hS.app (v := .slice ao (playO c acts).length co) (v' := .slice ao (leftJ c acts start).length co) (hM.row _) hM.grown (.inl own_slice)
        clear hM hb6
        refine sv (yAsg rfl) ?_
        refine nil ?_
        show Code.wp _ _ _ _ _
        refine seq ?_
        refine cutK (fun f => f 5 = .pointer (some ⟨b5, 0, none⟩) ∧ f 6 = .pointer (some ⟨b6, 0, none⟩) ∧ f 8 = .slice none 0 0 ∧ f 10 = .slice ao (leftJ c acts start).length co ∧ True) ⟨h5, h6, h8, rfl, trivial⟩ ?_
        rintro f ⟨h5, h6, h8, h10, -⟩
        refine region ?_
        refine smkmap (Value.int .i64) hS ?_; clear hS; intro b41 w hS
        refine sv (yLdB h6 Tryz.isAgg3 (hS.at _) rfl) ?_
        refine sins (Value.int .i64) hS rfl rfl rfl Tryz.runUnderlying76 (keyInt Tryz.underlying3) ?_; clear hS; intro w hS
        refine sv (yMove rfl) ?_
        refine sv (yAsg rfl) ?_
        refine nil ?_
        show Code.wp _ _ _ _ _
        refine seq ?_
        refine seq ?_
        refine region ?_
        refine sv (fa45_1 h5) ?_
        refine sv (yLdB rfl Tryz.isAgg43 (hS.at _) rfl) ?_
        refine sv (yLen rfl Tryz.underlying43) ?_
        refine sv (yMove rfl) ?_
        refine nil ?_
        show Code.wp _ _ _ _ _
        refine block ?_
        replace hS := hS.nilrow 52 2
        refine loop (fun f w zz => ∃ (k : Nat) (al : Option Addr) (cl : Nat) (fv : Value) (M : LMp), f 11 = .map (some b41) ∧ f 45 = .slice ax s.steps.length cps ∧ f 46 = .int .i64 (s.steps.length : Int) ∧ f 47 = .int .i64 (k : Int) ∧ f 8 = fv ∧ f 10 = .slice al (judN s start (leftJ c acts start) k).left.length cl ∧ StX [] w0 w [rowI fv 52 2 ((judN s start (leftJ c acts start) k).flt).length (((judN s start (leftJ c acts start) k).flt).flatMap pC), mapI b41 (Value.int .i64) M, rowI (.slice al (judN s start (leftJ c acts start) k).left.length cl) 66 5 (judN s start (leftJ c acts start) k).left.length ((judN s start (leftJ c acts start) k).left.flatMap ordC)] ∧ (k ≤ s.steps.length) ∧ (MapJ start (judN s start (leftJ c acts start) k).done M) ∧ zz = s.steps.length - k) _ ⟨_, rfl, 0, ao, co, _, _, rfl, rfl, rfl, rfl, h8, h10, (hS.sub (.cons_cons _ (.cons_cons _ (.cons_cons _ (List.nil_sublist _))))), (Nat.zero_le _), (mapJ_0 start), rfl⟩ ?_
        clear hS
        rintro f w _ ⟨k, al, cl, fv, M, h11, h45, h46, h47, h8, h10, hS, hk, hM, rfl⟩
        refine seq ?_
        refine region ?_
        refine sv (yLss h47 h46) ?_
        refine nil ?_
        show Code.wp _ _ _ _ _
        refine seq ?_
        refine cond rfl (fun c48 => ?_) (fun c48 => ?_)
        ·
          simp only [Bool.and_eq_true, Bool.or_eq_true, Bool.and_eq_false_iff, Bool.or_eq_false_iff, decide_eq_true_eq, decide_eq_false_iff_not, Bool.not_eq_true, Bool.not_eq_false, Bool.not_not, Bool.not_eq_eq_eq_not, Bool.not_true, Bool.not_false, Bool.false_eq_true, Bool.true_eq_false, ne_eq, Decidable.not_not, not_false_eq_true, not_true_eq_false] at c48
          refine skip ?_
          show Code.wp _ _ _ _ _
          refine seq ?_
          refine block ?_
          refine seq ?_
          refine region ?_
          refine sv (yMove h47) ?_
          obtain ⟨x, hxq, hdq⟩ := drop_of (l := s.steps) (k := k) (by omega)
          obtain ⟨bq, oq, csq, haq, hlenq, hcsq, hRq⟩ := hels (k) (by omega)
          obtain rfl : x = s.steps[k] := (List.getElem?_eq_some_iff.1 hxq).2.symm
          generalize s.steps[k] = x at hxq hdq hRq
          obtain ⟨rfl, hxi⟩ := hRq
          have hsx := hok.steps k x hxq
          have hx1 := hsx.after
          have hx2 := hsx.most
          have hx3 := hsx.least
          have hjs := judN_succ (start := start) (l := leftJ c acts start) hxq
          have hjl := judN_left s start (leftJ c acts start) k
          have hjn := judN_len s start (leftJ c acts start) k
          have hjf := judN_flt s start (leftJ c acts start) k
          have hjd := judN_done (s := s) (start := start) hlt k
          refine sv (yIxa h45 haq h47 Tryz.runUnderlying43 Tryz.sizeOf78 (by omega) (by omega)) ?_
          refine sv (yLdA rfl Tryz.isAgg78 Tryz.sizeOf78 (hcsq.ext hS.ext) rfl) ?_
          refine salloc hS Tryz.zeroValue78 rfl ?_; clear hS; intro b13 w hS
          refine sv (yAsg rfl) ?_
          refine sst hS rfl rfl Tryz.sizeOf78 rfl rfl rfl rfl ?_; clear hS; intro w hS
          refine nil ?_
          show Code.wp _ _ _ _ _
          refine seq ?_
          refine cutK (fun f => f 11 = .map (some b41) ∧ f 45 = .slice ax s.steps.length cps ∧ f 46 = .int .i64 (s.steps.length : Int) ∧ f 47 = .int .i64 (k : Int) ∧ f 8 = fv ∧ f 10 = .slice al (judN s start (leftJ c acts start) k).left.length cl ∧ f 12 = .int .i64 (k : Int) ∧ f 13 = .pointer (some ⟨b13, 0, none⟩) ∧ True) ⟨h11, h45, h46, h47, h8, h10, rfl, rfl, trivial⟩ ?_
          rintro f ⟨h11, h45, h46, h47, h8, h10, h12, h13, -⟩
          refine region ?_
          refine sv (yMove h10) ?_
          refine sv (yFn (.cons h13 .nil)) ?_
          replace hS : StX [] w0 w (blk b13 (stpC x) 78 :: rowI fv 52 2 ((judN s start (leftJ c acts start) k).flt).length (((judN s start (leftJ c acts start) k).flt).flatMap pC) :: mapI b41 (Value.int .i64) M :: rowI (.slice al (judN s start (leftJ c acts start) k).left.length cl) 66 5 (judN s start (leftJ c acts start) k).left.length ((judN s start (leftJ c acts start) k).left.flatMap ordC) :: []) := hS
          refine scall Tryz.call28 (.cons rfl (.cons rfl .nil)) (c_IndexOrd (p := hitO x) (cl := [.pointer (some ⟨b13, 0, none⟩)]) (sl_ords (hS.row (.slice al (judN s start (leftJ c acts start) k).left.length cl)) rfl) Tryz.call29 (fun o w _ e => c_jud2 (e.get (hS.at b13)))) ?_
          rintro _ w ⟨rfl, hE⟩; replace hS := hS.step hE; clear hE
          refine sv (yAsg rfl) ?_
          refine nil ?_
          show Code.wp _ _ _ _ _
          refine seq ?_
          refine seq ?_
          refine region ?_
          refine sv (yMove rfl) ?_
          refine sv (yLss rfl rfl) ?_
          refine nil ?_
          show Code.wp _ _ _ _ _
          refine cond rfl (fun c56 => ?_) (fun c56 => ?_)
          ·
            simp only [Bool.and_eq_true, Bool.or_eq_true, Bool.and_eq_false_iff, Bool.or_eq_false_iff, decide_eq_true_eq, decide_eq_false_iff_not, Bool.not_eq_true, Bool.not_eq_false, Bool.not_not, Bool.not_eq_eq_eq_not, Bool.not_true, Bool.not_false, Bool.false_eq_true, Bool.true_eq_false, ne_eq, Decidable.not_not, not_false_eq_true, not_true_eq_false] at c56
            have hju := hjs.trans (judS_no c56)
            have hjl2 : (judN s start (leftJ c acts start) (k + 1)).left = (judN s start (leftJ c acts start) k).left := by rw [hju]
            have hjf2 : (judN s start (leftJ c acts start) (k + 1)).flt = (judN s start (leftJ c acts start) k).flt ++ [(207, (k : Int))] := by rw [hju]
            have hjd2 : (judN s start (leftJ c acts start) (k + 1)).done = (judN s start (leftJ c acts start) k).done ++ [none] := by rw [hju]
            refine seq ?_
            refine region ?_
            refine sv (yMove h8) ?_
            refine sv (yMove h12) ?_
            refine sv (yBuild Tryz.zeroValue52 rfl pl52 (.cons rfl rfl (.cons rfl rfl .nil)) rfl) ?_
            refine sbslice hS Tryz.underlying48 Tryz.sizeOf52 rfl Tryz.zeroValue52 rfl (.cons rfl rfl .nil) rfl ?_; clear hS; intro b60 w hS
            refine sapp (bytes := 16) (size := 2) (v := fv) (m := 1) hS rfl rfl Tryz.underlying48 ti52 rfl rfl rfl rfl (by decide) (blk_cells (hS.at _)) rfl rfl (by omega) (by omega) ?_; clear hS; intro v61 w hS
            refine sv (yAsg rfl) ?_
            refine nil ?_
            show Code.wp _ _ _ _ _
            refine exit ?_
            show Code.wp _ _ _ _ _
            refine region ?_
            refine sv (yAdd h47 rfl ⟨by omega, by omega⟩) ?_
            refine sv (yMove rfl) ?_
            refine nil ?_
            exact ⟨_, _, rfl, ⟨k + 1, al, cl, v61, M, h11, h45, h46, rfl, rfl, (by rw [hjl2]; exact h10), (by rw [hjl2, hjf2, List.flatMap_append, List.length_append]; exact hS.sub (.cons _ (.cons _ (List.Sublist.refl _)))), (by omega), (by rw [hjd2]; exact mapJ_none hM), rfl⟩, by omega⟩
          ·
            simp only [Bool.and_eq_true, Bool.or_eq_true, Bool.and_eq_false_iff, Bool.or_eq_false_iff, decide_eq_true_eq, decide_eq_false_iff_not, Bool.not_eq_true, Bool.not_eq_false, Bool.not_not, Bool.not_eq_eq_eq_not, Bool.not_true, Bool.not_false, Bool.false_eq_true, Bool.true_eq_false, ne_eq, Decidable.not_not, not_false_eq_true, not_true_eq_false] at c56
            obtain ⟨q, hq1, hqe, -, o, ho, -⟩ := (idxF_spec (hitO x) (judN s start (leftJ c acts start) k).left 0 (Int.le_refl 0)).resolve_left (fun h => by rw [h.1] at c56; exact c56 (by decide))
            rw [Int.zero_add] at hqe
            have hju := hjs.trans (judS_yes hqe ho)
            have hjl2 : (judN s start (leftJ c acts start) (k + 1)).left = (judN s start (leftJ c acts start) k).left.eraseIdx q := by rw [hju]
            have hjf3 : (judN s start (leftJ c acts start) (k + 1)).flt = (judN s start (leftJ c acts start) k).flt ++ fltJ k x o.tm (befJ start (judN s start (leftJ c acts start) k).done x.after) := by rw [hju]
            have hjd2 : (judN s start (leftJ c acts start) (k + 1)).done = (judN s start (leftJ c acts start) k).done ++ [some o.tm] := by rw [hju]
            clear hju hjs
            have hotm := hlt o (hjl.2 o (List.mem_of_getElem? ho))
            obtain ⟨gl, rfl, -⟩ := row_get (hS.row (.slice al (judN s start (leftJ c acts start) k).left.length cl)) (by omega)
            refine skip ?_
            show Code.wp _ _ _ _ _
            refine seq ?_
            refine cutK (fun f => f 11 = .map (some b41) ∧ f 45 = .slice ax s.steps.length cps ∧ f 46 = .int .i64 (s.steps.length : Int) ∧ f 47 = .int .i64 (k : Int) ∧ f 8 = fv ∧ f 10 = .slice (some ⟨gl, 0, none⟩) (judN s start (leftJ c acts start) k).left.length cl ∧ f 12 = .int .i64 (k : Int) ∧ f 13 = .pointer (some ⟨b13, 0, none⟩) ∧ f 14 = .int .i64 (idxF (hitO x) (judN s start (leftJ c acts start) k).left 0) ∧ True) ⟨h11, h45, h46, h47, h8, h10, h12, h13, rfl, trivial⟩ ?_
            rintro f ⟨h11, h45, h46, h47, h8, h10, h12, h13, h14, -⟩
            refine region ?_
            refine sv (yMove h10) ?_
            refine sv (yMove h14) ?_
            refine sv (yIx0 rfl (rfl.trans (congrArg (Value.int .i64) hqe)) Tryz.runUnderlying33 Tryz.sizeOf66 (by omega)) ?_
            refine sv (fa66_4 rfl) ?_
            refine sv (yLd rfl Tryz.isAgg3 ((flat_cells0 ordC_len (row_at (hS.row (.slice (some ⟨gl, 0, none⟩) (judN s start (leftJ c acts start) k).left.length cl)) rfl (by omega)) ho).at (j := 4) rfl)) ?_
            refine sv (yAsg rfl) ?_
            refine nil ?_
            show Code.wp _ _ _ _ _
            refine seq ?_
            refine region ?_
            refine sv (yMove h11) ?_
            refine sv (yMove h12) ?_
            refine sv (yMove rfl) ?_
            refine smapset (Value.int .i64) hS rfl rfl rfl Tryz.runUnderlying76 (keyInt Tryz.underlying3) ?_; clear hS; intro w hS
            refine nil ?_
            show Code.wp _ _ _ _ _
            refine seq ?_
            refine region ?_
            refine sv (yMove h10) ?_
            refine sv (yMove h14) ?_
            refine sv (yMove h14) ?_
            refine sv (yAdd rfl rfl ⟨by omega, by omega⟩) ?_
            refine scall Tryz.call30 (.cons rfl (.cons (rfl.trans (congrArg (Value.int .i64) hqe)) (.cons (rfl.trans (congrArg (Value.int .i64) (by omega))) .nil))) (c_Del1Ord (hS.row (.slice (some ⟨gl, 0, none⟩) (judN s start (leftJ c acts start) k).left.length cl)) (i := q) hq1 (by omega)) ?_
            rintro u w ⟨hu, hMM⟩
            have hu2 : u = .slice (some ⟨gl, 0, none⟩) ((judN s start (leftJ c acts start) k).left.eraseIdx q).length cl := hu
            subst hu2
            clear hu
            replace hS := hS.app (v := .slice (some ⟨gl, 0, none⟩) (judN s start (leftJ c acts start) k).left.length cl) (v' := .slice (some ⟨gl, 0, none⟩) ((judN s start (leftJ c acts start) k).left.eraseIdx q).length cl) (hMM.row _) hMM.grown (.inl own_slice)
            clear hMM
            refine sv (yAsg rfl) ?_
            refine nil ?_
            show Code.wp _ _ _ _ _
            refine seq ?_
            refine cutK (fun f => f 11 = .map (some b41) ∧ f 45 = .slice ax s.steps.length cps ∧ f 46 = .int .i64 (s.steps.length : Int) ∧ f 47 = .int .i64 (k : Int) ∧ f 8 = fv ∧ f 10 = .slice (some ⟨gl, 0, none⟩) ((judN s start (leftJ c acts start) k).left.eraseIdx q).length cl ∧ f 12 = .int .i64 (k : Int) ∧ f 13 = .pointer (some ⟨b13, 0, none⟩) ∧ f 15 = .int .i64 o.tm ∧ True) ⟨h11, h45, h46, h47, h8, rfl, h12, h13, rfl, trivial⟩ ?_
            rintro f ⟨h11, h45, h46, h47, h8, h10, h12, h13, h15, -⟩
            refine region ?_
            refine sv (yMove h11) ?_
            refine sv (fa78_2 h13) ?_
            refine sv (yLdB rfl Tryz.isAgg3 (hS.at _) rfl) ?_
            refine sv (lookJ (yLookOk (Value.int .i64) rfl rfl Tryz.runUnderlying76 (keyInt Tryz.underlying3) Tryz.zeroValue3 (hS.is _) rfl) (mapJ_in hM hjn hx1.2)) ?_
            refine sv (yMove rfl) ?_
            refine sv (yExt rfl rfl) ?_
            refine sv (yExt rfl rfl) ?_
            refine sv (yAsg rfl) ?_
            refine sv (yAsg rfl) ?_
            refine nil ?_
            show Code.wp _ _ _ _ _
            refine block ?_
            refine seq ?_
            refine cutK (fun f => f 11 = .map (some b41) ∧ f 45 = .slice ax s.steps.length cps ∧ f 46 = .int .i64 (s.steps.length : Int) ∧ f 47 = .int .i64 (k : Int) ∧ f 8 = fv ∧ f 10 = .slice (some ⟨gl, 0, none⟩) ((judN s start (leftJ c acts start) k).left.eraseIdx q).length cl ∧ f 12 = .int .i64 (k : Int) ∧ f 13 = .pointer (some ⟨b13, 0, none⟩) ∧ f 15 = .int .i64 o.tm ∧ f 16 = .int .i64 ((befJ start (judN s start (leftJ c acts start) k).done x.after).getD 0) ∧ f 17 = .bool (befJ start (judN s start (leftJ c acts start) k).done x.after).isSome ∧ True) ⟨h11, h45, h46, h47, h8, h10, h12, h13, h15, rfl, rfl, trivial⟩ ?_
            rintro f ⟨h11, h45, h46, h47, h8, h10, h12, h13, h15, h16, h17, -⟩
            refine region ?_
            have hbj := befJ_getD (a := x.after) hst2 hjd
            refine sv (yMove h17) ?_
            refine sv (yMove rfl) ?_
            refine sg rfl rfl rfl (fun g => (yMove h15)) (fun v85 g85 => ?_)
            refine sg rfl rfl rfl (fun g => (yMove h16)) (fun v86 g86 => ?_)
            refine sg rfl rfl rfl (fun g => (fa78_3 h13)) (fun v87 g87 => ?_)
            refine sg rfl rfl rfl (fun g => (yLdB (g87.1 g) Tryz.isAgg3 (hS.at _) rfl)) (fun v88 g88 => ?_)
            refine sg rfl rfl rfl (fun g => (yAdd (g86.1 g) (g88.1 g) ⟨by omega, by omega⟩)) (fun v89 g89 => ?_)
            refine sg rfl rfl rfl (fun g => (yLss (g85.1 g) (g89.1 g))) (fun v90 g90 => ?_)
            refine sv (yAnd rfl (fun hB => (g90.1 hB)) rfl) ?_
            refine sv (yAsg rfl) ?_
            refine nil ?_
            show Code.wp _ _ _ _ _
            refine cond rfl (fun c82 => ?_) (fun c82 => ?_)
            ·
              simp only [Bool.and_eq_true, Bool.or_eq_true, Bool.and_eq_false_iff, Bool.or_eq_false_iff, decide_eq_true_eq, decide_eq_false_iff_not, Bool.not_eq_true, Bool.not_eq_false, Bool.not_not, Bool.not_eq_eq_eq_not, Bool.not_true, Bool.not_false, Bool.false_eq_true, Bool.true_eq_false, ne_eq, Decidable.not_not, not_false_eq_true, not_true_eq_false] at c82
              have hjf2 := hjf3.trans (congrArg _ (fltJ_1 (i := k) c82.1 c82.2))
              refine region ?_
              refine sv (yMove h8) ?_
              refine sv (yMove h12) ?_
              refine sv (yBuild Tryz.zeroValue52 rfl pl52 (.cons rfl rfl (.cons rfl rfl .nil)) rfl) ?_
              refine sbslice hS Tryz.underlying48 Tryz.sizeOf52 rfl Tryz.zeroValue52 rfl (.cons rfl rfl .nil) rfl ?_; clear hS; intro b95 w hS
              refine sapp (bytes := 16) (size := 2) (v := fv) (m := 1) hS rfl rfl Tryz.underlying48 ti52 rfl rfl rfl rfl (by decide) (blk_cells (hS.at _)) rfl rfl (by omega) (by omega) ?_; clear hS; intro v96 w hS
              refine sv (yAsg rfl) ?_
              refine nil ?_
              show Code.wp _ _ _ _ _
              refine region ?_
              refine sv (yAdd h47 rfl ⟨by omega, by omega⟩) ?_
              refine sv (yMove rfl) ?_
              refine nil ?_
              exact ⟨_, _, rfl, ⟨k + 1, (some ⟨gl, 0, none⟩), cl, v96, setM M (k : Int) (.int .i64 o.tm), h11, h45, h46, rfl, rfl, (by rw [hjl2]; exact h10), (by rw [hjl2, hjf2, List.flatMap_append, List.length_append]; exact hS.sub (.cons _ (.cons _ (List.Sublist.refl _)))), (by omega), (by rw [hjd2]; exact mapJ_some hM (judN_len s start _ k)), rfl⟩, by omega⟩
            ·
              simp only [Bool.and_eq_true, Bool.or_eq_true, Bool.and_eq_false_iff, Bool.or_eq_false_iff, decide_eq_true_eq, decide_eq_false_iff_not, Bool.not_eq_true, Bool.not_eq_false, Bool.not_not, Bool.not_eq_eq_eq_not, Bool.not_true, Bool.not_false, Bool.false_eq_true, Bool.true_eq_false, ne_eq, Decidable.not_not, not_false_eq_true, not_true_eq_false] at c82
              refine seq ?_
              refine cutK (fun f => f 11 = .map (some b41) ∧ f 45 = .slice ax s.steps.length cps ∧ f 46 = .int .i64 (s.steps.length : Int) ∧ f 47 = .int .i64 (k : Int) ∧ f 8 = fv ∧ f 10 = .slice (some ⟨gl, 0, none⟩) ((judN s start (leftJ c acts start) k).left.eraseIdx q).length cl ∧ f 12 = .int .i64 (k : Int) ∧ f 13 = .pointer (some ⟨b13, 0, none⟩) ∧ f 15 = .int .i64 o.tm ∧ f 16 = .int .i64 ((befJ start (judN s start (leftJ c acts start) k).done x.after).getD 0) ∧ f 17 = .bool (befJ start (judN s start (leftJ c acts start) k).done x.after).isSome ∧ True) ⟨h11, h45, h46, h47, h8, h10, h12, h13, h15, h16, h17, trivial⟩ ?_
              rintro f ⟨h11, h45, h46, h47, h8, h10, h12, h13, h15, h16, h17, -⟩
              refine region ?_
              refine sv (yMove h17) ?_
              refine sv (yMove rfl) ?_
              refine sg rfl rfl rfl (fun g => (yMove h15)) (fun v100 g100 => ?_)
              refine sg rfl rfl rfl (fun g => (yMove h16)) (fun v101 g101 => ?_)
              refine sg rfl rfl rfl (fun g => (fa78_4 h13)) (fun v102 g102 => ?_)
              refine sg rfl rfl rfl (fun g => (yLdB (g102.1 g) Tryz.isAgg3 (hS.at _) rfl)) (fun v103 g103 => ?_)
              refine sg rfl rfl rfl (fun g => (yAdd (g101.1 g) (g103.1 g) ⟨by omega, by omega⟩)) (fun v104 g104 => ?_)
              refine sg rfl rfl rfl (fun g => (yGtr (g100.1 g) (g104.1 g))) (fun v105 g105 => ?_)
              refine sv (yAnd rfl (fun hB => (g105.1 hB)) rfl) ?_
              refine sv (yAsg rfl) ?_
              refine nil ?_
              show Code.wp _ _ _ _ _
              refine cond rfl (fun c97 => ?_) (fun c97 => ?_)
              ·
                simp only [Bool.and_eq_true, Bool.or_eq_true, Bool.and_eq_false_iff, Bool.or_eq_false_iff, decide_eq_true_eq, decide_eq_false_iff_not, Bool.not_eq_true, Bool.not_eq_false, Bool.not_not, Bool.not_eq_eq_eq_not, Bool.not_true, Bool.not_false, Bool.false_eq_true, Bool.true_eq_false, ne_eq, Decidable.not_not, not_false_eq_true, not_true_eq_false] at c97
                have hjf2 := hjf3.trans (congrArg _ (fltJ_2 (i := k) c97.1 (fltJ_or c82 c97.1) c97.2))
                refine region ?_
                refine sv (yMove h8) ?_
                refine sv (yMove h12) ?_
                refine sv (yBuild Tryz.zeroValue52 rfl pl52 (.cons rfl rfl (.cons rfl rfl .nil)) rfl) ?_
                refine sbslice hS Tryz.underlying48 Tryz.sizeOf52 rfl Tryz.zeroValue52 rfl (.cons rfl rfl .nil) rfl ?_; clear hS; intro b110 w hS
                refine sapp (bytes := 16) (size := 2) (v := fv) (m := 1) hS rfl rfl Tryz.underlying48 ti52 rfl rfl rfl rfl (by decide) (blk_cells (hS.at _)) rfl rfl (by omega) (by omega) ?_; clear hS; intro v111 w hS
                refine sv (yAsg rfl) ?_
                refine nil ?_
                show Code.wp _ _ _ _ _
                refine region ?_
                refine sv (yAdd h47 rfl ⟨by omega, by omega⟩) ?_
                refine sv (yMove rfl) ?_
                refine nil ?_
                exact ⟨_, _, rfl, ⟨k + 1, (some ⟨gl, 0, none⟩), cl, v111, setM M (k : Int) (.int .i64 o.tm), h11, h45, h46, rfl, rfl, (by rw [hjl2]; exact h10), (by rw [hjl2, hjf2, List.flatMap_append, List.length_append]; exact hS.sub (.cons _ (.cons _ (List.Sublist.refl _)))), (by omega), (by rw [hjd2]; exact mapJ_some hM (judN_len s start _ k)), rfl⟩, by omega⟩
              ·
                simp only [Bool.and_eq_true, Bool.or_eq_true, Bool.and_eq_false_iff, Bool.or_eq_false_iff, decide_eq_true_eq, decide_eq_false_iff_not, Bool.not_eq_true, Bool.not_eq_false, Bool.not_not, Bool.not_eq_eq_eq_not, Bool.not_true, Bool.not_false, Bool.false_eq_true, Bool.true_eq_false, ne_eq, Decidable.not_not, not_false_eq_true, not_true_eq_false] at c97
                have hjf2 := (hjf3.trans (congrArg _ (fltJ_0 (i := k) c82 c97))).trans (List.append_nil _)
                refine skip ?_
                show Code.wp _ _ _ _ _
                refine region ?_
                refine sv (yAdd h47 rfl ⟨by omega, by omega⟩) ?_
                refine sv (yMove rfl) ?_
                refine nil ?_
                exact ⟨_, _, rfl, ⟨k + 1, (some ⟨gl, 0, none⟩), cl, fv, setM M (k : Int) (.int .i64 o.tm), h11, h45, h46, rfl, h8, (by rw [hjl2]; exact h10), (by rw [hjl2, hjf2]; exact hS.sub (.cons _ (List.Sublist.refl _))), (by omega), (by rw [hjd2]; exact mapJ_some hM (judN_len s start _ k)), rfl⟩, by omega⟩
        ·
          simp only [Bool.and_eq_true, Bool.or_eq_true, Bool.and_eq_false_iff, Bool.or_eq_false_iff, decide_eq_true_eq, decide_eq_false_iff_not, Bool.not_eq_true, Bool.not_eq_false, Bool.not_not, Bool.not_eq_eq_eq_not, Bool.not_true, Bool.not_false, Bool.false_eq_true, Bool.true_eq_false, ne_eq, Decidable.not_not, not_false_eq_true, not_true_eq_false] at c48
          refine exit ?_
          show Code.wp _ _ _ _ _
          refine seq ?_
          refine region ?_
          refine sv (yMove h8) ?_
          refine sv (yAsg rfl) ?_
          refine sv (yAsg rfl) ?_
          refine nil ?_
          show Code.wp _ _ _ _ _
          refine wp_ret ?_
          refine retQ (res2 rfl rfl rfl) ?_
          obtain rfl : k = s.steps.length := by omega
          exact ⟨fv, by (rw [hfin.1]; try rfl), by rw [hfin.2]; exact hS.sub (.cons_cons _ (List.nil_sublist _))⟩
end Go.Proofs.YtghgnofilbnbaaaGreat

/- part C31 -/
namespace Bx
open Go Go.RowKit
def holdsR (hold ks : List Int) (a b : Int) : Bool := ks.all fun k => decide (holdAt hold k = a) || decide (holdAt hold k = b)
def oneR (hold ks : List Int) (a : Int) : Bool := ks.any fun k => decide (holdAt hold k = a)
def keyR (x : Knd) (hold : List Int) (a b : Int) : Bool := !holdsR hold x.keys a b || (x.split && (!oneR hold x.keys a || !oneR hold x.keys b))
def confR (c : Crew) (acts : List Acn) (a : Acn) (st : Rm) : Int :=
  let o := actAt acts a.what
  let x := kndAt c o.what
  if a.what ∉ st.opn then 206 else if o.tm + x.within < a.tm then 205 else if a.who = o.who then 204 else if gradeOf c a.who < x.second then 203 else if onB c o.who a.tm = false then 201
  else if keyR x st.hold a.who o.who = true then 202 else 0
def ordR (c : Crew) (a : Acn) (st : Rm) : Int :=
  let x := kndAt c a.what
  if gradeOf c a.who < x.grade then 203 else if (decide (x.second = 0) && !holdsR st.hold x.keys a.who a.who) = true then 202 else 0
def canR (c : Crew) (acts : List Acn) (a : Acn) (st : Rm) : Int :=
  if a.what ∉ st.opn then 206 else if ((actAt acts a.what).who ≠ a.who ∧ gradeOf c a.who ≤ gradeOf c (actAt acts a.what).who) then 203 else 0
def whyR (c : Crew) (acts : List Acn) (a : Acn) (st : Rm) : Int :=
  if a.tm < st.now then 200 else if (!onB c a.who a.tm || (decide (a.dw = 2) && !onB c a.to a.tm)) = true then 201
  else if a.dw = 1 ∧ 0 ≤ holdAt st.hold a.what ∧ onB c (holdAt st.hold a.what) a.tm = true then 202
  else if (a.dw = 2 ∨ a.dw = 3) ∧ holdAt st.hold a.what ≠ a.who then 202
  else if a.dw = 4 then ordR c a st else if a.dw = 5 then confR c acts a st else if a.dw = 6 then canR c acts a st else 0
theorem holdsR_iff {hold ks : List Int} {a b : Int} : holdsR hold ks a b = true ↔ ∀ n ∈ ks, holdAt hold n = a ∨ holdAt hold n = b := by
  unfold holdsR
  simp only [List.all_eq_true, Bool.or_eq_true, decide_eq_true_eq]
theorem oneR_iff {hold ks : List Int} {a : Int} : oneR hold ks a = true ↔ ∃ n ∈ ks, holdAt hold n = a := by
  unfold oneR
  simp only [List.any_eq_true, decide_eq_true_eq]
theorem confR_eq {c : Crew} {acts : List Acn} {a : Acn} {st : Rm} : confR c acts a st = confE c acts a st := by
  unfold confR confE
  simp only []
  split
  · rfl
  split
  · rfl
  split
  · rfl
  rename_i hne
  split
  · rfl
  split
  · rfl
  have hk : (keyR (kndAt c (actAt acts a.what).what) st.hold a.who (actAt acts a.what).who = true) ↔ (allH st.hold [a.who, (actAt acts a.what).who] (kndAt c (actAt acts a.what).what).keys && (!(kndAt c (actAt acts a.what).what).split || decide (0 < minL (foldH st.hold [a.who, (actAt acts a.what).who] (kndAt c (actAt acts a.what).what).keys)))) = false := by
    generalize kndAt c (actAt acts a.what).what = x
    have h1 : allH st.hold [a.who, (actAt acts a.what).who] x.keys = holdsR st.hold x.keys a.who (actAt acts a.what).who := by
      rw [Bool.eq_iff_iff, allH_two, holdsR_iff]
    have h2 : decide (0 < minL (foldH st.hold [a.who, (actAt acts a.what).who] x.keys)) = (oneR st.hold x.keys a.who && oneR st.hold x.keys (actAt acts a.what).who) := by
      rw [Bool.eq_iff_iff, decide_eq_true_eq, Bool.and_eq_true, split_two hne, oneR_iff, oneR_iff]
    rw [h1, h2]
    unfold keyR
    cases holdsR st.hold x.keys a.who (actAt acts a.what).who <;> cases x.split <;> cases oneR st.hold x.keys a.who <;> cases oneR st.hold x.keys (actAt acts a.what).who <;> simp
  by_cases hh : keyR (kndAt c (actAt acts a.what).what) st.hold a.who (actAt acts a.what).who = true
  · rw [if_pos hh, if_pos (hk.1 hh)]
  · rw [if_neg hh, if_neg (fun h => hh (hk.2 h))]
theorem whyR_eq {c : Crew} {acts : List Acn} {i : Int} {a : Acn} {st : Rm} (hd : 1 ≤ a.dw ∧ a.dw ≤ 6) (hs : 0 ≤ (kndAt c a.what).second) : whyR c acts a st = (doF c acts i a st).1 := by
  unfold whyR doF
  split
  · rfl
  have hduty : (!onB c a.who a.tm || (decide (a.dw = 2) && !onB c a.to a.tm)) = !dutyA c a := by
    unfold dutyA
    by_cases h : a.dw = 2 <;> cases onB c a.who a.tm <;> cases onB c a.to a.tm <;> simp [h]
  rw [hduty]
  cases hda : dutyA c a with
  | false => rw [if_pos (show (!false) = true from rfl), if_pos (show false = false from rfl)]
  | true =>
    rw [if_neg (show ¬ (!true) = true by decide), if_neg (show ¬ true = false by decide)]
    unfold doneF
    by_cases h1 : a.dw = 1
    · simp only [h1, true_and, if_true]
      unfold takeF
      by_cases h : 0 ≤ holdAt st.hold a.what ∧ onB c (holdAt st.hold a.what) a.tm = true
      · rw [if_pos h, if_pos]
        simp only [Bool.or_eq_false_iff, decide_eq_false_iff_not, Bool.not_eq_false']
        exact ⟨by omega, h.2⟩
      · simp [h]
    rw [if_neg (fun h => h1 h.1), if_neg h1]
    by_cases h23 : a.dw = 2 ∨ a.dw = 3
    · have hg : ∀ to, (giveF a to { st with now := a.tm }).1 = if holdAt st.hold a.what ≠ a.who then 202 else 0 := fun to => by
        unfold giveF
        split <;> rfl
      rcases h23 with h | h
      · rw [if_pos h, hg]
        by_cases hh : holdAt st.hold a.what ≠ a.who
        · rw [if_pos ⟨.inl h, hh⟩, if_pos hh]
        · rw [if_neg (fun q => hh q.2), if_neg hh, if_neg (by omega), if_neg (by omega), if_neg (by omega)]
      · rw [if_neg (show ¬ a.dw = 2 by omega), if_pos h, hg]
        by_cases hh : holdAt st.hold a.what ≠ a.who
        · rw [if_pos ⟨.inr h, hh⟩, if_pos hh]
        · rw [if_neg (fun q => hh q.2), if_neg hh, if_neg (by omega), if_neg (by omega), if_neg (by omega)]
    rw [if_neg (fun h => h23 h.1), if_neg (fun h => h23 (.inl h)), if_neg (fun h => h23 (.inr h))]
    by_cases h4 : a.dw = 4
    · rw [if_pos h4, if_pos h4]
      unfold ordR orderF
      simp only []
      split
      · rfl
      by_cases h0 : (kndAt c a.what).second = 0
      · rw [if_neg (show ¬ 0 < (kndAt c a.what).second by omega)]
        have e : holdsR st.hold (kndAt c a.what).keys a.who a.who = allH st.hold [a.who] (kndAt c a.what).keys := by
          rw [Bool.eq_iff_iff, holdsR_iff, allH_one]
          simp
        rw [e, decide_eq_true h0]
        cases allH st.hold [a.who] (kndAt c a.what).keys <;> simp
      · rw [if_neg (by simp [h0]), if_pos (by omega)]
    rw [if_neg h4, if_neg h4]
    by_cases h5 : a.dw = 5
    · rw [if_pos h5, if_pos h5, confR_eq]
      unfold confirmF
      have e : confE c acts a { st with now := a.tm } = confE c acts a st := rfl
      rw [e]
      split
      · rfl
      · rename_i h; exact Classical.not_not.1 h
    rw [if_neg h5, if_neg h5, if_pos (by omega)]
    have e : cancE c acts a { st with now := a.tm } = cancE c acts a st := rfl
    have e2 : cancE c acts a st = if a.what ∉ st.opn then 206 else if ((actAt acts a.what).who ≠ a.who ∧ gradeOf c a.who ≤ gradeOf c (actAt acts a.what).who) then 203 else 0 := by
      unfold cancE
      split
      · rfl
      by_cases h : (actAt acts a.what).who ≠ a.who ∧ gradeOf c a.who ≤ gradeOf c (actAt acts a.what).who
      · rw [if_pos h, if_pos]
        simp only [Bool.or_eq_false_iff, decide_eq_false_iff_not]
        exact ⟨fun q => h.1 q.symm, by omega⟩
      · rw [if_neg h, if_neg]
        simp only [Bool.not_eq_false, Bool.or_eq_true, decide_eq_true_eq]
        by_cases hw : a.who = (actAt acts a.what).who
        · exact .inl hw
        · exact .inr (by have : ¬ gradeOf c a.who ≤ gradeOf c (actAt acts a.what).who := fun q => h ⟨fun r => hw r.symm, q⟩; omega)
    have e3 : canR c acts a st = cancE c acts a st := by rw [e2]; rfl
    rw [e3]
    unfold cancelF
    rw [e]
    split
    · rfl
    · rename_i h; exact Classical.not_not.1 h
end Bx
/- part C32 -/
namespace Bx
open Go Go.RowKit
def opnB (k : Nat) (opn : List Int) : List Bool := (List.range k).map fun (j : Nat) => decide ((j : Int) ∈ opn)
theorem opnB_len (k : Nat) (opn : List Int) : (opnB k opn).length = k := by simp [opnB]
theorem opnB_get {k j : Nat} {opn : List Int} (h : j < k) : (opnB k opn)[j]? = some (decide ((j : Int) ∈ opn)) := by
  unfold opnB
  rw [List.getElem?_map, List.getElem?_range h]; rfl
theorem opnB_app {k : Nat} {opn : List Int} (h : ∀ j ∈ opn, j < (k : Int)) : opnB k opn ++ [false] = opnB (k + 1) opn := by
  unfold opnB
  rw [List.range_succ, List.map_append]
  congr 1
  simp only [List.map_cons, List.map_nil]
  rw [decide_eq_false (fun hm => by have := h _ hm; omega)]
theorem opnB_set {k i : Nat} {opn opn' : List Int} {b : Bool} (hi : decide ((i : Int) ∈ opn') = b) (h : ∀ j : Nat, j ≠ i → ((j : Int) ∈ opn' ↔ (j : Int) ∈ opn)) : (opnB k opn).set i b = opnB k opn' := by
  apply List.ext_getElem?
  intro j
  rw [List.getElem?_set]
  by_cases hj : j < k
  · rw [opnB_len, opnB_get hj, opnB_get hj]
    by_cases e : i = j
    · subst e; rw [if_pos rfl, if_pos hj, hi]
    · rw [if_neg e]
      congr 1
      rw [decide_eq_decide]
      exact (h j (fun q => e q.symm)).symm
  · rw [List.getElem?_eq_none (l := opnB k opn) (by rw [opnB_len]; omega), List.getElem?_eq_none (l := opnB k opn') (by rw [opnB_len]; omega), opnB_len]
    split
    · rw [if_neg (by omega)]
    · rfl
theorem opnB_on {k : Nat} {opn : List Int} : (opnB (k + 1) opn).set k true = opnB (k + 1) (opn ++ [(k : Int)]) :=
  opnB_set (by simp) (fun j hj => by simp; omega)
theorem opnB_off {k i : Nat} {opn : List Int} (hn : opn.Nodup) : (opnB k opn).set i false = opnB k (opn.erase (i : Int)) :=
  opnB_set (decide_eq_false (fun h => (hn.mem_erase_iff.1 h).1 rfl)) (fun j hj => by rw [hn.mem_erase_iff]; constructor; exact fun h => h.2; exact fun h => ⟨by omega, h⟩)
/-! ### the model's errors -/
def doR (c : Crew) (acts : List Acn) (i : Int) (a : Acn) (st : Rm) : Rm :=
  if a.dw = 1 then { st with hold := st.hold.set a.what.toNat a.who } else if a.dw = 2 then { st with hold := st.hold.set a.what.toNat a.to } else if a.dw = 3 then { st with hold := st.hold.set a.what.toNat (-1) }
  else if a.dw = 4 then (if (kndAt c a.what).second = 0 then { st with ords := st.ords ++ [⟨i, -1, a.what, a.subj, a.tm⟩] } else { st with opn := st.opn ++ [i] })
  else if a.dw = 5 then { st with opn := st.opn.erase a.what, ords := st.ords ++ [⟨a.what, i, (actAt acts a.what).what, (actAt acts a.what).subj, a.tm⟩] } else { st with opn := st.opn.erase a.what }
theorem takeF_e {c : Crew} {a : Acn} {st : Rm} : ((takeF c a st).1 = 202 ∧ (takeF c a st).2 = st) ∨ ((takeF c a st).1 = 0 ∧ (takeF c a st).2 = { st with hold := st.hold.set a.what.toNat a.who }) := by
  unfold takeF; split
  · exact .inl ⟨rfl, rfl⟩
  · exact .inr ⟨rfl, rfl⟩
theorem giveF_e {a : Acn} {to : Int} {st : Rm} : ((giveF a to st).1 = 202 ∧ (giveF a to st).2 = st) ∨ ((giveF a to st).1 = 0 ∧ (giveF a to st).2 = { st with hold := st.hold.set a.what.toNat to }) := by
  unfold giveF; split
  · exact .inl ⟨rfl, rfl⟩
  · exact .inr ⟨rfl, rfl⟩
theorem confE_r {c : Crew} {acts : List Acn} {a : Acn} {st : Rm} : confE c acts a st = 0 ∨ 201 ≤ confE c acts a st := by
  unfold confE
  simp only []
  repeat' split
  all_goals omega
theorem cancE_r {c : Crew} {acts : List Acn} {a : Acn} {st : Rm} : cancE c acts a st = 0 ∨ 201 ≤ cancE c acts a st := by
  unfold cancE
  repeat' split
  all_goals omega
theorem doneF_e {c : Crew} {acts : List Acn} {i : Int} {a : Acn} {st : Rm} (hd : 1 ≤ a.dw ∧ a.dw ≤ 6) (hs : 0 ≤ (kndAt c a.what).second) : (201 ≤ (doneF c acts i a st).1 ∧ (doneF c acts i a st).2 = st) ∨ ((doneF c acts i a st).1 = 0 ∧ (doneF c acts i a st).2 = doR c acts i a st) := by
  unfold doneF doR
  split
  · rcases takeF_e (c := c) (a := a) (st := st) with ⟨h1, h2⟩ | ⟨h1, h2⟩
    · exact .inl ⟨by omega, h2⟩
    · exact .inr ⟨h1, h2⟩
  split
  · rcases giveF_e (a := a) (to := a.to) (st := st) with ⟨h1, h2⟩ | ⟨h1, h2⟩
    · exact .inl ⟨by omega, h2⟩
    · exact .inr ⟨h1, h2⟩
  split
  · rcases giveF_e (a := a) (to := -1) (st := st) with ⟨h1, h2⟩ | ⟨h1, h2⟩
    · exact .inl ⟨by omega, h2⟩
    · exact .inr ⟨h1, h2⟩
  split
  · unfold orderF
    simp only []
    split
    · exact .inl ⟨by show (201 : Int) ≤ 203; decide, rfl⟩
    split
    · rw [if_neg (by omega)]; exact .inr ⟨rfl, rfl⟩
    split
    · exact .inl ⟨by show (201 : Int) ≤ 202; decide, rfl⟩
    · rw [if_pos (by omega)]; exact .inr ⟨rfl, rfl⟩
  split
  · unfold confirmF
    split
    · rename_i h; exact .inl ⟨by have := confE_r (c := c) (acts := acts) (a := a) (st := st); show 201 ≤ confE c acts a st; omega, rfl⟩
    · exact .inr ⟨rfl, rfl⟩
  · unfold cancelF
    split
    · rename_i h; exact .inl ⟨by have := cancE_r (c := c) (acts := acts) (a := a) (st := st); show 201 ≤ cancE c acts a st; omega, rfl⟩
    · exact .inr ⟨rfl, rfl⟩
theorem doF_late {c : Crew} {acts : List Acn} {i : Int} {a : Acn} {st : Rm} (hd : 1 ≤ a.dw ∧ a.dw ≤ 6) (hs : 0 ≤ (kndAt c a.what).second) (h : (doF c acts i a st).1 = 200) : (doF c acts i a st).2 = st := by
  unfold doF at h ⊢
  split
  · rfl
  · rename_i h1
    rw [if_neg h1] at h
    split at h
    · cases h
    · rcases doneF_e (c := c) (acts := acts) (i := i) (a := a) (st := { st with now := a.tm }) hd hs with h2 | h2
      · omega
      · omega
theorem doF_bad {c : Crew} {acts : List Acn} {i : Int} {a : Acn} {st : Rm} (hd : 1 ≤ a.dw ∧ a.dw ≤ 6) (hs : 0 ≤ (kndAt c a.what).second) (h : (doF c acts i a st).1 ≠ 200) (h0 : (doF c acts i a st).1 ≠ 0) : (doF c acts i a st).2 = { st with now := a.tm } := by
  unfold doF at h h0 ⊢
  split
  · rename_i h1; rw [if_pos h1] at h; exact absurd rfl h
  rename_i h1
  rw [if_neg h1] at h0
  split
  · rfl
  rename_i h2
  rw [if_neg h2] at h0
  rcases doneF_e (c := c) (acts := acts) (i := i) (a := a) (st := { st with now := a.tm }) hd hs with h3 | h3
  · exact h3.2
  · exact absurd h3.1 h0
theorem doF_good {c : Crew} {acts : List Acn} {i : Int} {a : Acn} {st : Rm} (hd : 1 ≤ a.dw ∧ a.dw ≤ 6) (hs : 0 ≤ (kndAt c a.what).second) (h0 : (doF c acts i a st).1 = 0) : (doF c acts i a st).2 = doR c acts i a { st with now := a.tm } := by
  unfold doF at h0 ⊢
  split
  · rename_i h1; rw [if_pos h1] at h0; cases h0
  rename_i h1
  rw [if_neg h1] at h0
  split
  · rename_i h2; rw [if_pos h2] at h0; cases h0
  rename_i h2
  rw [if_neg h2] at h0
  rcases doneF_e (c := c) (acts := acts) (i := i) (a := a) (st := { st with now := a.tm }) hd hs with h3 | h3
  · omega
  · exact h3.2
theorem opn_nodup {c : Crew} {acts : List Acn} {i : Nat} {a : Acn} {st : Rm} (hok : RmOk c acts i st) (hd : 1 ≤ a.dw ∧ a.dw ≤ 6) (hs : 0 ≤ (kndAt c a.what).second) (hn : st.opn.Nodup) : (doF c acts i a st).2.opn.Nodup := by
  by_cases h : (doF c acts i a st).1 = 200
  · rw [doF_late hd hs h]; exact hn
  by_cases h0 : (doF c acts i a st).1 = 0
  · rw [doF_good hd hs h0]
    unfold doR
    split
    · exact hn
    split
    · exact hn
    split
    · exact hn
    split
    · split
      · exact hn
      · show (st.opn ++ [(i : Int)]).Nodup
        rw [List.nodup_append]
        refine ⟨hn, by simp, fun x hx y hy => ?_⟩
        rw [List.mem_singleton.1 hy]
        have := (hok.opn x hx).2.1
        omega
    split
    · exact hn.erase _
    · exact hn.erase _
  · rw [doF_bad hd hs h h0]; exact hn
/-- What is done by an act with no error, by its parts. -/
theorem doR_take {c : Crew} {acts : List Acn} {i : Int} {a : Acn} {st : Rm} (h : a.dw = 1) : doR c acts i a st = { st with hold := st.hold.set a.what.toNat a.who } := if_pos h
theorem doR_give {c : Crew} {acts : List Acn} {i : Int} {a : Acn} {st : Rm} (h : a.dw = 2) : doR c acts i a st = { st with hold := st.hold.set a.what.toNat a.to } := by unfold doR; rw [if_neg (by omega), if_pos h]
theorem doR_put {c : Crew} {acts : List Acn} {i : Int} {a : Acn} {st : Rm} (h : a.dw = 3) : doR c acts i a st = { st with hold := st.hold.set a.what.toNat (-1) } := by unfold doR; rw [if_neg (by omega), if_neg (by omega), if_pos h]
theorem doR_ord {c : Crew} {acts : List Acn} {i : Int} {a : Acn} {st : Rm} (h : a.dw = 4) (h2 : (kndAt c a.what).second = 0) : doR c acts i a st = { st with ords := st.ords ++ [⟨i, -1, a.what, a.subj, a.tm⟩] } := by unfold doR; rw [if_neg (by omega), if_neg (by omega), if_neg (by omega), if_pos h, if_pos h2]
theorem doR_open {c : Crew} {acts : List Acn} {i : Int} {a : Acn} {st : Rm} (h : a.dw = 4) (h2 : (kndAt c a.what).second ≠ 0) : doR c acts i a st = { st with opn := st.opn ++ [i] } := by unfold doR; rw [if_neg (by omega), if_neg (by omega), if_neg (by omega), if_pos h, if_neg h2]
theorem doR_conf {c : Crew} {acts : List Acn} {i : Int} {a : Acn} {st : Rm} (h : a.dw = 5) : doR c acts i a st = { st with opn := st.opn.erase a.what, ords := st.ords ++ [⟨a.what, i, (actAt acts a.what).what, (actAt acts a.what).subj, a.tm⟩] } := by unfold doR; rw [if_neg (by omega), if_neg (by omega), if_neg (by omega), if_neg (by omega), if_pos h]
theorem doR_canc {c : Crew} {acts : List Acn} {i : Int} {a : Acn} {st : Rm} (h : a.dw = 6) : doR c acts i a st = { st with opn := st.opn.erase a.what } := by unfold doR; rw [if_neg (by omega), if_neg (by omega), if_neg (by omega), if_neg (by omega), if_neg (by omega)]
/-- The reference's check of an act. -/
def actR (c : Crew) (i : Int) (a : Acn) : Int :=
  if (!inB a.tm 0 100000) = true then 7 else if (!inB a.who 0 ((c.ops.length : Int) - 1)) = true then 4
  else if (((!inB a.dw 1 6) || (decide (a.to ≠ 0) && decide (a.dw ≠ 2))) || (decide (a.subj ≠ 0) && decide (a.dw ≠ 4))) = true then 2
  else if ((!inB a.what 0 (manyA c i a - 1)) || (decide (a.dw = 2) && !inB a.to 0 ((c.ops.length : Int) - 1))) = true then 4
  else if (decide (a.dw = 2) && decide (a.to = a.who)) = true then 2 else if (!inB a.subj 0 1000) = true then 7 else 0
theorem inB_notc {a lo hi : Int} : (!inB a lo hi) = outB a lo hi := by
  rw [Bool.eq_iff_iff]
  simp only [Bool.not_eq_true', inB, outB, Bool.and_eq_false_iff, Bool.or_eq_true, decide_eq_true_eq, decide_eq_false_iff_not]
  omega
theorem actR_eq {c : Crew} {i : Int} {a : Acn} (hn : 1 ≤ c.ops.length) : actR c i a = actE c i a := by
  unfold actR actE
  rw [inB_notc, inB_notc, inB_notc, inB_notc, inB_notc, inB_notc]
  have e1 : ((outB a.dw 1 6 || (decide (a.to ≠ 0) && decide (a.dw ≠ 2))) || (decide (a.subj ≠ 0) && decide (a.dw ≠ 4))) = argA a := by
    unfold argA
    by_cases h2 : a.dw = 2 <;> by_cases h4 : a.dw = 4 <;> by_cases h0 : a.to = 0 <;> by_cases h1 : a.subj = 0 <;> simp [h2, h4, h0, h1]
  rw [e1]
  split
  · rfl
  split
  · rfl
  split
  · rfl
  rename_i h3
  have e2 : (outB a.what 0 (manyA c i a - 1) || (decide (a.dw = 2) && outB a.to 0 ((c.ops.length : Int) - 1))) = noneA c i a := by
    unfold noneA
    by_cases h2 : a.dw = 2
    · rw [decide_eq_true h2, Bool.true_and]
    · have h0 : a.to = 0 := by
        unfold argA at h3
        simp only [h2, decide_false, Bool.not_false, Bool.true_and, Bool.not_eq_true, Bool.or_eq_false_iff, decide_eq_false_iff_not, ne_eq, Classical.not_not] at h3
        exact h3.1.2
      have h5 : outB a.to 0 ((c.ops.length : Int) - 1) = false := by
        rw [h0]; unfold outB
        simp only [Bool.or_eq_false_iff, decide_eq_false_iff_not]; omega
      rw [h5, decide_eq_false h2]; simp
  rw [e2]
def encB (b : Bool) : List Value := [.bool b]
theorem encB_len (b : Bool) : (encB b).length = 1 := rfl
theorem flat_encB (l : List Bool) : l.flatMap encB = l.map Value.bool := by
  induction l with
  | nil => rfl
  | cons x l ih => rw [List.flatMap_cons, List.map_cons, ih]; rfl
theorem flatB_set {l : List Bool} {i : Nat} {x : Bool} (h : i < l.length) : splice (l.flatMap encB) (0 + i * 1) [.bool x] = (l.set i x).flatMap encB := by
  rw [flat_encB, flat_encB]
  unfold splice
  rw [Nat.zero_add, Nat.mul_one, List.map_set, List.set_eq_take_append_cons_drop, if_pos (by simpa using h)]
  simp
theorem sl_flags {w : World} {e : TypeId} {v : Value} {n : Nat} {l : List Bool} (h : w.ownsRow 0 e 1 v n (l.flatMap encB)) (hn : l.length = n) : Sl w 1 RBool v l := by
  subst hn
  obtain ⟨a, cap, hv, h1, h2, h3⟩ := row_sl (ok := fun _ => True) encB_len h (fun _ _ => trivial)
  exact ⟨a, cap, hv, h1, h2, fun i hi => by obtain ⟨b, o, cs, e1, e2, e3, e4, -⟩ := h3 i hi; exact ⟨b, o, cs, e1, e2, e3, e4⟩⟩
theorem sec0 {c : Crew} {i : Int} (hc : CrewOk c) : 0 ≤ (kndAt c i).second := by
  unfold kndAt
  rcases getD_mem (l := c.kinds) (i := i.toNat) (d := nKnd) with hm | hm
  · exact (kndOk_of (hc.kinds _ hm)).second.1
  · rw [hm]; decide
theorem playK_bd (c : Crew) (acts : List Acn) : ∀ y ∈ playK c acts, I64 y := by
  unfold playK
  split
  · intro y hy; exact (List.not_mem_nil hy).elim
  · rename_i h
    obtain ⟨hc, _, hall⟩ := play_ok (Classical.not_not.1 h)
    intro y hy
    have := (plN_inv hc hall _ (Nat.le_refl _)).1.hold y hy
    have := hc.nops
    exact ⟨by omega, by omega⟩
end Bx
/- part C33 -/
namespace Bx
open Go Go.RowKit
def ordAt (l : List Ord) (q : Nat) : Ord := l.getD q nOrd
def freeO (l : List Ord) (start : Int) (tk : List Int) (q : Nat) : Bool := !decide ((ordAt l q).tm < start) && !tk.any (fun y => decide (y = (q : Int)))
def hitR (l : List Ord) (start : Int) (tk : List Int) (x : Stp) (q : Nat) : Bool := hitO x (ordAt l q) && freeO l start tk q
structure RJ (l : List Ord) (start : Int) (dn tk : List Int) (st : Jd) : Prop where
  left : st.left = ((List.range l.length).filter (freeO l start tk)).map (ordAt l)
  done : st.done = dn.map fun d => if d < 0 then none else some (ordAt l d.toNat).tm
  bd : ∀ d ∈ dn, -1 ≤ d ∧ d < l.length
theorem filter_map_range (l : List Ord) (p : Ord → Bool) : l.filter p = ((List.range l.length).filter fun q => p (ordAt l q)).map (ordAt l) := by
  induction l with
  | nil => rfl
  | cons a l ih =>
    rw [List.length_cons, List.range_succ_eq_map, List.filter_cons, List.filter_cons, List.filter_map, ih]
    have e : ((fun q => p (ordAt (a :: l) q)) ∘ Nat.succ) = fun q => p (ordAt l q) := rfl
    have e2 : ∀ L : List Nat, (L.map Nat.succ).map (ordAt (a :: l)) = L.map (ordAt l) := fun L => by rw [List.map_map]; rfl
    rw [e]
    have e0 : p (ordAt (a :: l) 0) = p a := rfl
    rw [e0]
    split
    · rw [List.map_cons, e2]; rfl
    · rw [e2]
theorem rj_0 {c : Crew} {acts : List Acn} {s : Scr} {start : Int} : RJ (playO c acts) start [] [] (judN s start (leftJ c acts start) 0) := by
  refine ⟨?_, rfl, fun d h => (List.not_mem_nil h).elim⟩
  show leftJ c acts start = _
  unfold leftJ
  rw [filter_map_range]
  congr 1
  apply List.filter_congr
  intro q _
  unfold freeO
  simp
theorem idxF_none {α : Type} {p : α → Bool} : ∀ {l : List α} {i : Int}, (∀ x ∈ l, p x = false) → idxF p l i = -1
  | [], _, _ => rfl
  | a :: l, i, h => by
    rw [idxF, if_neg (by rw [h a (List.mem_cons_self ..)]; decide)]
    exact idxF_none (fun x hx => h x (List.mem_cons_of_mem _ hx))
theorem idxF_app {α : Type} {p : α → Bool} {b : α} {B : List α} (hb : p b = true) : ∀ {A : List α} {i : Int}, (∀ x ∈ A, p x = false) → idxF p (A ++ b :: B) i = i + A.length
  | [], i, _ => by rw [List.nil_append, idxF, if_pos hb]; simp
  | a :: A, i, h => by
    rw [List.cons_append, idxF, if_neg (by rw [h a (List.mem_cons_self ..)]; decide), idxF_app hb (fun x hx => h x (List.mem_cons_of_mem _ hx)), List.length_cons]
    push_cast
    omega
theorem range_at {n q : Nat} (h : q < n) : List.range n = List.range q ++ q :: List.range' (q + 1) (n - q - 1) := by
  rw [List.range_eq_range', List.range_eq_range', show n = q + (1 + (n - q - 1)) by omega]
  rw [← List.range'_append_1, Nat.zero_add, ← List.range'_append_1 (s := q)]
  congr 2
  simp
theorem rj_none {l : List Ord} {start : Int} {dn tk : List Int} {st : Jd} {x : Stp} {i : Nat} (h : RJ l start dn tk st) (hn : ∀ q, q < l.length → hitR l start tk x q = false) : RJ l start (dn ++ [-1]) tk (judS start i x st) ∧ (judS start i x st).flt = st.flt ++ [(207, (i : Int))] := by
  have hx : idxF (hitO x) st.left 0 < 0 := by
    rw [idxF_none]
    · decide
    · intro o ho
      rw [h.left] at ho
      obtain ⟨q, hq, rfl⟩ := List.mem_map.1 ho
      obtain ⟨hq1, hq2⟩ := List.mem_filter.1 hq
      have := hn q (List.mem_range.1 hq1)
      unfold hitR at this
      rw [hq2, Bool.and_true] at this
      exact this
  rw [judS_no hx]
  refine ⟨⟨h.left, ?_, fun d hd => ?_⟩, rfl⟩
  · simp [h.done]
  · rcases List.mem_append.1 hd with hd | hd
    · exact h.bd d hd
    · rw [List.mem_singleton.1 hd]; omega
theorem rj_some {l : List Ord} {start : Int} {dn tk : List Int} {st : Jd} {x : Stp} {i q : Nat} (h : RJ l start dn tk st) (hq : q < l.length) (hh : hitR l start tk x q = true) (hn : ∀ r, r < q → hitR l start tk x r = false) :
    RJ l start (dn ++ [(q : Int)]) (tk ++ [(q : Int)]) (judS start i x st) ∧ (judS start i x st).flt = st.flt ++ fltJ i x (ordAt l q).tm (befJ start st.done x.after) := by
  unfold hitR at hh
  rw [Bool.and_eq_true] at hh
  have e : st.left = ((List.range q).filter (freeO l start tk)).map (ordAt l) ++ ordAt l q :: ((List.range' (q + 1) (l.length - q - 1)).filter (freeO l start tk)).map (ordAt l) := by
    rw [h.left, range_at hq, List.filter_append, List.filter_cons, if_pos hh.2, List.map_append, List.map_cons]
  have hA : ∀ o ∈ ((List.range q).filter (freeO l start tk)).map (ordAt l), hitO x o = false := by
    intro o ho
    obtain ⟨r, hr, rfl⟩ := List.mem_map.1 ho
    obtain ⟨hr1, hr2⟩ := List.mem_filter.1 hr
    have := hn r (List.mem_range.1 hr1)
    unfold hitR at this
    rw [hr2, Bool.and_true] at this
    exact this
  have hx : idxF (hitO x) st.left 0 = ((((List.range q).filter (freeO l start tk)).map (ordAt l)).length : Nat) := by rw [e, idxF_app hh.1 hA, Int.zero_add]
  have hg : st.left[(((List.range q).filter (freeO l start tk)).map (ordAt l)).length]? = some (ordAt l q) := by rw [e, List.getElem?_append_right (Nat.le_refl _), Nat.sub_self]; rfl
  rw [judS_yes hx hg]
  refine ⟨⟨?_, ?_, fun d hd => ?_⟩, rfl⟩
  · show st.left.eraseIdx _ = _
    rw [e, List.eraseIdx_append_of_length_le (Nat.le_refl _), Nat.sub_self, List.eraseIdx_cons_zero, range_at hq, List.filter_append, List.filter_cons, if_neg, List.map_append]
    · congr 2
      · apply List.filter_congr
        intro r hr
        have := List.mem_range.1 hr
        unfold freeO
        rw [List.any_append]
        have : ([(q : Int)].any fun y => decide (y = (r : Int))) = false := by simp; omega
        rw [this, Bool.or_false]
      · apply List.filter_congr
        intro r hr
        obtain ⟨hr1, -⟩ := List.mem_range'_1.1 hr
        unfold freeO
        rw [List.any_append]
        have : ([(q : Int)].any fun y => decide (y = (r : Int))) = false := by simp; omega
        rw [this, Bool.or_false]
    · unfold freeO
      rw [List.any_append]
      simp
  · simp [h.done]
  · rcases List.mem_append.1 hd with hd | hd
    · exact h.bd d hd
    · rw [List.mem_singleton.1 hd]; omega
/-- What a step waits for, as the reference finds it. -/
theorem rj_bef0 {l : List Ord} {start : Int} {dn tk : List Int} {st : Jd} {a : Int} (h : RJ l start dn tk st) (ha : a = -1) : befJ start st.done a = some start := if_pos ha
theorem rj_bef {l : List Ord} {start : Int} {dn tk : List Int} {st : Jd} {a : Int} {q : Nat} {d : Int} (h : RJ l start dn tk st) (ha : a = (q : Int)) (hd : dn[q]? = some d) : befJ start st.done a = if d < 0 then none else some (ordAt l d.toNat).tm := by
  unfold befJ
  rw [if_neg (by omega), if_pos (by omega), h.done, ha, Int.toNat_natCast]
  exact getD_hit (by rw [List.getElem?_map, hd]; rfl)
theorem hitR_at {l : List Ord} {start : Int} {tk : List Int} {x : Stp} {q : Nat} {o : Ord} (h : l[q]? = some o) : hitR l start tk x q = (((decide (o.kind = x.kind) && decide (o.subj = x.subj)) && decide (start ≤ o.tm)) && !tk.any fun y => decide (y = (q : Int))) := by
  unfold hitR freeO hitO ordAt
  rw [getD_hit h, Bool.and_assoc (decide (o.kind = x.kind) && decide (o.subj = x.subj))]
  congr 2
  rw [Bool.eq_iff_iff]
  simp
theorem ordAt_hit {l : List Ord} {q : Nat} {o : Ord} (h : l[q]? = some o) : ordAt l q = o := getD_hit h
def judE1 (c : Crew) (s : Scr) (start : Int) : Int := if (scriptF c s).2 ≠ 0 then (scriptF c s).2 else if neverB start = true then 7 else 0
theorem judE1_yes {c : Crew} {s : Scr} {start : Int} (h : (decide ((scriptF c s).2 = 0) && !inB start 0 100000) = true) : judE1 c s start = 7 := by
  rw [Bool.and_eq_true, decide_eq_true_eq, inB_notc] at h
  unfold judE1
  rw [if_neg (not_not_intro h.1), if_pos (show neverB start = true from h.2)]
theorem judE1_no {c : Crew} {s : Scr} {start : Int} (h : (decide ((scriptF c s).2 = 0) && !inB start 0 100000) = false) : judE1 c s start = (scriptF c s).2 := by
  unfold judE1
  split
  · rfl
  · rename_i h0
    have h0 := Classical.not_not.1 h0
    rw [decide_eq_true h0, Bool.true_and, inB_notc] at h
    rw [if_neg (by rw [show neverB start = false from h]; decide), h0]
theorem judE1_bad {c : Crew} {s : Scr} {start : Int} {acts : List Acn} (h : judE1 c s start ≠ 0) : judE c s start acts = judE1 c s start ∧ judL c s start acts = [] := by
  unfold judE1 at h ⊢
  split
  · rename_i h0; exact judE_1 h0
  · rename_i h0
    rw [if_neg h0] at h
    split
    · rename_i h1; exact judE_2 (Classical.not_not.1 h0) h1
    · rename_i h1; rw [if_neg h1] at h; exact absurd rfl h
theorem judE1_ok {c : Crew} {s : Scr} {start : Int} (h : judE1 c s start = 0) : (scriptF c s).2 = 0 ∧ neverB start = false := by
  unfold judE1 at h
  split at h
  · rename_i h0; exact absurd h h0
  · rename_i h0
    split at h
    · cases h
    · rename_i h1; exact ⟨Classical.not_not.1 h0, by simpa using h1⟩
theorem playO_tm {c : Crew} {acts : List Acn} (h : playE c acts = 0) : (playO c acts).length ≤ 60 ∧ ∀ o ∈ playO c acts, 0 ≤ o.tm ∧ o.tm ≤ 100000 := by
  obtain ⟨hc, hn, hall⟩ := play_ok h
  have hr := (plN_inv hc hall _ (Nat.le_refl _)).1
  have e : playO c acts = (plN c acts acts.length).2.ords := if_neg (not_not_intro h)
  rw [e]
  exact ⟨Nat.le_trans hr.nord hn, fun o ho => (hr.ords o ho).2.2.2.2⟩
theorem snocI (l : List Int) (v : Int) : l.flatMap Bx.encI ++ [.int .i64 v] = (l ++ [v]).flatMap Bx.encI := by rw [List.flatMap_append]; rfl
theorem RJ.dn64 {l : List Ord} {start : Int} {dn tk : List Int} {st : Jd} (h : RJ l start dn tk st) (hl : l.length ≤ 60) : ∀ d ∈ dn, I64 d := fun d hd => by have := h.bd d hd; exact ⟨by omega, by omega⟩
end Bx
/- part Cz1 -/
namespace Go.Proofs.YtghgnofilbnbaaaGreat
open Go Bx
set_option maxHeartbeats 1000000 in
/-- (barrage/barrageref10.play).holds -/
theorem c_holds {hold ks : List Int} {rv bv ov kv ksv : Value} {now : Int} {w0 : World} (hkv : Sl w0 1 RInt kv hold) (hks : Sl w0 1 RInt ksv ks) (hb : ∀ k ∈ ks, 0 ≤ k ∧ k < hold.length) {a b : Int} : CV Tryz.prog 72 #[.agg #[rv, bv, ov, kv, .int .i64 now], ksv, .int .i64 a, .int .i64 b] w0 (.bool (holdsR hold ks a b)) := by
  obtain ⟨ah, ch, rfl, hhcap, hhmx, helh⟩ := id hkv
  obtain ⟨ak, ck, rfl, hkcap, hkmx, hels⟩ := id hks
  refine enter Tryz.func72 rfl Tryz.ntmps72 rfl ?_
  have hS := St.start w0
  refine seq ?_
  refine region ?_
  refine sbox hS rfl rfl ?_; clear hS; intro b4 w hS
  refine sv (yAsg rfl) ?_
  refine nil ?_
  show Code.wp _ _ _ _ _
  refine seq ?_
  refine seq ?_
  refine region ?_
  refine sv (yAsg rfl) ?_
  refine nil ?_
  show Code.wp _ _ _ _ _
  refine block ?_
  refine loop (fun f w zz => ∃ (i : Nat), f 1 = .slice ak ks.length ck ∧ f 2 = .int .i64 a ∧ f 3 = .int .i64 b ∧ f 4 = .pointer (some ⟨b4, 0, none⟩) ∧ f 9 = .int .i64 (i : Int) ∧ StX [] w0 w [blk b4 [rv, bv, ov, .slice ah hold.length ch, .int .i64 now] 60] ∧ (i ≤ ks.length) ∧ (∀ q, q < i → ∀ y, ks[q]? = some y → holdAt hold y = a ∨ holdAt hold y = b) ∧ zz = ks.length - i) _ ⟨_, rfl, 0, rfl, rfl, rfl, rfl, rfl, hS, (Nat.zero_le _), (fun q hq => absurd hq (Nat.not_lt_zero q)), rfl⟩ ?_
  clear hS
  rintro f w _ ⟨i, h1, h2, h3, h4, h9, hS, hi, hN, rfl⟩
  refine seq ?_
  refine seq ?_
  refine region ?_
  refine sv (yMove h9) ?_
  refine sv (yMove h1) ?_
  refine sv (yLen rfl Tryz.underlying37) ?_
  refine sv (yLss rfl rfl) ?_
  refine nil ?_
  show Code.wp _ _ _ _ _
  refine cond rfl (fun c13 => ?_) (fun c13 => ?_)
  ·
    simp only [Bool.and_eq_true, Bool.or_eq_true, Bool.and_eq_false_iff, Bool.or_eq_false_iff, decide_eq_true_eq, decide_eq_false_iff_not, Bool.not_eq_true, Bool.not_eq_false, Bool.not_not, Bool.not_eq_eq_eq_not, Bool.not_true, Bool.not_false, Bool.false_eq_true, Bool.true_eq_false, ne_eq, Decidable.not_not, not_false_eq_true, not_true_eq_false] at c13
    refine skip ?_
    show Code.wp _ _ _ _ _
    refine seq ?_
    refine block ?_
    refine seq ?_
    refine region_draw mixed (by kernel_rfl) hS ?_
    obtain ⟨x, hxq, hdq⟩ := drop_of (l := ks) (k := i) (by omega)
    obtain ⟨bq, oq, csq, haq, hlenq, hcsq, hRq⟩ := hels (i) (by omega)
    obtain rfl : x = ks[i] := (List.getElem?_eq_some_iff.1 hxq).2.symm
    generalize ks[i] = x at hxq hdq hRq
    obtain ⟨rfl, hxi⟩ := hRq
    obtain ⟨m, hm⟩ := Int.eq_ofNat_of_zero_le (hb x (List.mem_of_getElem? hxq)).1
    have hml : m < hold.length := by have := (hb x (List.mem_of_getElem? hxq)).2; omega
    obtain ⟨y, hxu, hdu⟩ := drop_of (l := hold) (k := m) (by omega)
    obtain ⟨bu, ou, csu, hau, hlenu, hcsu, hRu⟩ := helh (m) (by omega)
    obtain rfl : y = hold[m] := (List.getElem?_eq_some_iff.1 hxu).2.symm
    generalize hold[m] = y at hxu hdu hRu
    obtain ⟨rfl, hyi⟩ := hRu
    have hhy : holdAt hold x = y := by unfold holdAt; rw [hm, Int.toNat_natCast, getD_hit hxu]
    refine qv (fun w hS => (fa60_3 h4)) ?_
    refine qv (fun w hS => (yLdB rfl Tryz.isAgg37 (hS.at _) rfl)) ?_
    refine qv (fun w hS => (yMove h1)) ?_
    refine qv (fun w hS => (yMove h9)) ?_
    refine qv (fun w hS => (yIxa rfl haq rfl Tryz.runUnderlying37 Tryz.sizeOf3 (by omega) (by omega))) ?_
    refine qv (fun w hS => (yLd rfl Tryz.isAgg3 ((hcsq.ext hS.ext).one))) ?_
    refine qv (fun w hS => (yIxa rfl hau (rfl.trans (congrArg (Value.int .i64) hm)) Tryz.runUnderlying37 Tryz.sizeOf3 (by omega) (by omega))) ?_
    refine qv (fun w hS => (yLd rfl Tryz.isAgg3 ((hcsu.ext hS.ext).one))) ?_
    refine qv (fun w hS => (yMove h2)) ?_
    refine qv (fun w hS => (yNeq rfl rfl)) ?_
    refine qv (fun w hS => (yMove rfl)) ?_
    refine qg rfl rfl rfl (fun g w hS => (fa60_3 h4)) (fun v27 g27 => ?_)
    refine qg rfl rfl rfl (fun g w hS => (yLdB (g27.1 g) Tryz.isAgg37 (hS.at _) rfl)) (fun v28 g28 => ?_)
    refine qg rfl rfl rfl (fun g w hS => (yMove h1)) (fun v29 g29 => ?_)
    refine qg rfl rfl rfl (fun g w hS => (yMove h9)) (fun v30 g30 => ?_)
    refine qg rfl rfl rfl (fun g w hS => (yIxa (g29.1 g) haq (g30.1 g) Tryz.runUnderlying37 Tryz.sizeOf3 (by omega) (by omega))) (fun v31 g31 => ?_)
    refine qg rfl rfl rfl (fun g w hS => (yLd (g31.1 g) Tryz.isAgg3 ((hcsq.ext hS.ext).one))) (fun v32 g32 => ?_)
    refine qg rfl rfl rfl (fun g w hS => (yIxa (g28.1 g) hau ((g32.1 g).trans (congrArg (Value.int .i64) hm)) Tryz.runUnderlying37 Tryz.sizeOf3 (by omega) (by omega))) (fun v33 g33 => ?_)
    refine qg rfl rfl rfl (fun g w hS => (yLd (g33.1 g) Tryz.isAgg3 ((hcsu.ext hS.ext).one))) (fun v34 g34 => ?_)
    refine qg rfl rfl rfl (fun g w hS => (yMove h3)) (fun v35 g35 => ?_)
    refine qg rfl rfl rfl (fun g w hS => (yNeq (g34.1 g) (g35.1 g))) (fun v36 g36 => ?_)
    refine qv (fun w hS => (yAnd rfl (fun hB => (g36.1 hB)) rfl)) ?_
    clear hS; refine qnil (fun w hS => ?_)
    show Code.wp _ _ _ _ _
    refine cond rfl (fun c37 => ?_) (fun c37 => ?_)
    ·
      simp only [Bool.and_eq_true, Bool.or_eq_true, Bool.and_eq_false_iff, Bool.or_eq_false_iff, decide_eq_true_eq, decide_eq_false_iff_not, Bool.not_eq_true, Bool.not_eq_false, Bool.not_not, Bool.not_eq_eq_eq_not, Bool.not_true, Bool.not_false, Bool.false_eq_true, Bool.true_eq_false, ne_eq, Decidable.not_not, not_false_eq_true, not_true_eq_false] at c37
      refine seq ?_
      refine region ?_
      refine sv (yAsg rfl) ?_
      refine nil ?_
      show Code.wp _ _ _ _ _
      refine wp_ret (blockR (thenR (thenR (blockR (thenR ?_)))))
      exact retV (res1 rfl (eqB (by rw [Bool.eq_false_iff, Ne, holdsR_iff]; intro h; have := h x (List.mem_of_getElem? hxq); rw [hhy] at this; omega))) hS.ext
    ·
      simp only [Bool.and_eq_true, Bool.or_eq_true, Bool.and_eq_false_iff, Bool.or_eq_false_iff, decide_eq_true_eq, decide_eq_false_iff_not, Bool.not_eq_true, Bool.not_eq_false, Bool.not_not, Bool.not_eq_eq_eq_not, Bool.not_true, Bool.not_false, Bool.false_eq_true, Bool.true_eq_false, ne_eq, Decidable.not_not, not_false_eq_true, not_true_eq_false] at c37
      refine skip ?_
      show Code.wp _ _ _ _ _
      refine region ?_
      refine sv (yMove h9) ?_
      refine sv (yAdd rfl rfl ⟨by omega, by omega⟩) ?_
      refine sv (yAsg rfl) ?_
      refine nil ?_
      exact ⟨_, _, rfl, ⟨i + 1, h1, h2, h3, h4, rfl, hS, (by omega), (snoc hN (fun v hv => by cases Option.some.inj (hxq.symm.trans hv); rw [hhy]; omega)), rfl⟩, by omega⟩
  ·
    simp only [Bool.and_eq_true, Bool.or_eq_true, Bool.and_eq_false_iff, Bool.or_eq_false_iff, decide_eq_true_eq, decide_eq_false_iff_not, Bool.not_eq_true, Bool.not_eq_false, Bool.not_not, Bool.not_eq_eq_eq_not, Bool.not_true, Bool.not_false, Bool.false_eq_true, Bool.true_eq_false, ne_eq, Decidable.not_not, not_false_eq_true, not_true_eq_false] at c13
    refine exit ?_
    show Code.wp _ _ _ _ _
    refine seq ?_
    refine region ?_
    refine sv (yAsg rfl) ?_
    refine nil ?_
    show Code.wp _ _ _ _ _
    refine wp_ret ?_
    exact retV (res1 rfl (eqB (holdsR_iff.2 (fun y hy => by obtain ⟨q, hq, rfl⟩ := List.getElem_of_mem hy; exact hN q (by omega) _ (List.getElem?_eq_getElem hq))))) hS.ext
set_option maxHeartbeats 1000000 in
/-- (barrage/barrageref10.play).one -/
theorem c_one {hold ks : List Int} {rv bv ov kv ksv : Value} {now : Int} {w0 : World} (hkv : Sl w0 1 RInt kv hold) (hks : Sl w0 1 RInt ksv ks) (hb : ∀ k ∈ ks, 0 ≤ k ∧ k < hold.length) {a : Int} : CV Tryz.prog 88 #[.agg #[rv, bv, ov, kv, .int .i64 now], ksv, .int .i64 a] w0 (.bool (oneR hold ks a)) := by
  obtain ⟨ah, ch, rfl, hhcap, hhmx, helh⟩ := id hkv
  obtain ⟨ak, ck, rfl, hkcap, hkmx, hels⟩ := id hks
  refine enter Tryz.func88 rfl Tryz.ntmps88 rfl ?_
  have hS := St.start w0
  refine seq ?_
  refine region ?_
  refine sbox hS rfl rfl ?_; clear hS; intro b3 w hS
  refine sv (yAsg rfl) ?_
  refine nil ?_
  show Code.wp _ _ _ _ _
  refine seq ?_
  refine seq ?_
  refine region ?_
  refine sv (yAsg rfl) ?_
  refine nil ?_
  show Code.wp _ _ _ _ _
  refine block ?_
  refine loop (fun f w zz => ∃ (i : Nat), f 1 = .slice ak ks.length ck ∧ f 2 = .int .i64 a ∧ f 3 = .pointer (some ⟨b3, 0, none⟩) ∧ f 7 = .int .i64 (i : Int) ∧ StX [] w0 w [blk b3 [rv, bv, ov, .slice ah hold.length ch, .int .i64 now] 60] ∧ (i ≤ ks.length) ∧ (∀ q, q < i → ∀ y, ks[q]? = some y → holdAt hold y ≠ a) ∧ zz = ks.length - i) _ ⟨_, rfl, 0, rfl, rfl, rfl, rfl, hS, (Nat.zero_le _), (fun q hq => absurd hq (Nat.not_lt_zero q)), rfl⟩ ?_
  clear hS
  rintro f w _ ⟨i, h1, h2, h3, h7, hS, hi, hN, rfl⟩
  refine seq ?_
  refine seq ?_
  refine region ?_
  refine sv (yMove h7) ?_
  refine sv (yMove h1) ?_
  refine sv (yLen rfl Tryz.underlying37) ?_
  refine sv (yLss rfl rfl) ?_
  refine nil ?_
  show Code.wp _ _ _ _ _
  refine cond rfl (fun c11 => ?_) (fun c11 => ?_)
  ·
    simp only [Bool.and_eq_true, Bool.or_eq_true, Bool.and_eq_false_iff, Bool.or_eq_false_iff, decide_eq_true_eq, decide_eq_false_iff_not, Bool.not_eq_true, Bool.not_eq_false, Bool.not_not, Bool.not_eq_eq_eq_not, Bool.not_true, Bool.not_false, Bool.false_eq_true, Bool.true_eq_false, ne_eq, Decidable.not_not, not_false_eq_true, not_true_eq_false] at c11
    refine skip ?_
    show Code.wp _ _ _ _ _
    refine seq ?_
    refine block ?_
    refine seq ?_
    refine region_draw mixed (by kernel_rfl) hS ?_
    obtain ⟨x, hxq, hdq⟩ := drop_of (l := ks) (k := i) (by omega)
    obtain ⟨bq, oq, csq, haq, hlenq, hcsq, hRq⟩ := hels (i) (by omega)
    obtain rfl : x = ks[i] := (List.getElem?_eq_some_iff.1 hxq).2.symm
    generalize ks[i] = x at hxq hdq hRq
    obtain ⟨rfl, hxi⟩ := hRq
    obtain ⟨m, hm⟩ := Int.eq_ofNat_of_zero_le (hb x (List.mem_of_getElem? hxq)).1
    have hml : m < hold.length := by have := (hb x (List.mem_of_getElem? hxq)).2; omega
    obtain ⟨y, hxu, hdu⟩ := drop_of (l := hold) (k := m) (by omega)
    obtain ⟨bu, ou, csu, hau, hlenu, hcsu, hRu⟩ := helh (m) (by omega)
    obtain rfl : y = hold[m] := (List.getElem?_eq_some_iff.1 hxu).2.symm
    generalize hold[m] = y at hxu hdu hRu
    obtain ⟨rfl, hyi⟩ := hRu
    have hhy : holdAt hold x = y := by unfold holdAt; rw [hm, Int.toNat_natCast, getD_hit hxu]
    refine qv (fun w hS => (fa60_3 h3)) ?_
    refine qv (fun w hS => (yLdB rfl Tryz.isAgg37 (hS.at _) rfl)) ?_
    refine qv (fun w hS => (yMove h1)) ?_
    refine qv (fun w hS => (yMove h7)) ?_
    refine qv (fun w hS => (yIxa rfl haq rfl Tryz.runUnderlying37 Tryz.sizeOf3 (by omega) (by omega))) ?_
    refine qv (fun w hS => (yLd rfl Tryz.isAgg3 ((hcsq.ext hS.ext).one))) ?_
    refine qv (fun w hS => (yIxa rfl hau (rfl.trans (congrArg (Value.int .i64) hm)) Tryz.runUnderlying37 Tryz.sizeOf3 (by omega) (by omega))) ?_
    refine qv (fun w hS => (yLd rfl Tryz.isAgg3 ((hcsu.ext hS.ext).one))) ?_
    refine qv (fun w hS => (yMove h2)) ?_
    refine qv (fun w hS => (yEql rfl rfl)) ?_
    clear hS; refine qnil (fun w hS => ?_)
    show Code.wp _ _ _ _ _
    refine cond rfl (fun c23 => ?_) (fun c23 => ?_)
    ·
      simp only [Bool.and_eq_true, Bool.or_eq_true, Bool.and_eq_false_iff, Bool.or_eq_false_iff, decide_eq_true_eq, decide_eq_false_iff_not, Bool.not_eq_true, Bool.not_eq_false, Bool.not_not, Bool.not_eq_eq_eq_not, Bool.not_true, Bool.not_false, Bool.false_eq_true, Bool.true_eq_false, ne_eq, Decidable.not_not, not_false_eq_true, not_true_eq_false] at c23
      refine seq ?_
      refine region ?_
      refine sv (yAsg rfl) ?_
      refine nil ?_
      show Code.wp _ _ _ _ _
      refine wp_ret (blockR (thenR (thenR (blockR (thenR ?_)))))
      exact retV (res1 rfl (eqB (oneR_iff.2 ⟨x, List.mem_of_getElem? hxq, hhy.trans c23⟩))) hS.ext
    ·
      simp only [Bool.and_eq_true, Bool.or_eq_true, Bool.and_eq_false_iff, Bool.or_eq_false_iff, decide_eq_true_eq, decide_eq_false_iff_not, Bool.not_eq_true, Bool.not_eq_false, Bool.not_not, Bool.not_eq_eq_eq_not, Bool.not_true, Bool.not_false, Bool.false_eq_true, Bool.true_eq_false, ne_eq, Decidable.not_not, not_false_eq_true, not_true_eq_false] at c23
      refine skip ?_
      show Code.wp _ _ _ _ _
      refine region ?_
      refine sv (yMove h7) ?_
      refine sv (yAdd rfl rfl ⟨by omega, by omega⟩) ?_
      refine sv (yAsg rfl) ?_
      refine nil ?_
      exact ⟨_, _, rfl, ⟨i + 1, h1, h2, h3, rfl, hS, (by omega), (snoc hN (fun v hv => by cases Option.some.inj (hxq.symm.trans hv); rw [hhy]; exact c23)), rfl⟩, by omega⟩
  ·
    simp only [Bool.and_eq_true, Bool.or_eq_true, Bool.and_eq_false_iff, Bool.or_eq_false_iff, decide_eq_true_eq, decide_eq_false_iff_not, Bool.not_eq_true, Bool.not_eq_false, Bool.not_not, Bool.not_eq_eq_eq_not, Bool.not_true, Bool.not_false, Bool.false_eq_true, Bool.true_eq_false, ne_eq, Decidable.not_not, not_false_eq_true, not_true_eq_false] at c11
    refine exit ?_
    show Code.wp _ _ _ _ _
    refine seq ?_
    refine region ?_
    refine sv (yAsg rfl) ?_
    refine nil ?_
    show Code.wp _ _ _ _ _
    refine wp_ret ?_
    exact retV (res1 rfl (eqB (by rw [Bool.eq_false_iff, Ne, oneR_iff]; rintro ⟨y, hy, he⟩; obtain ⟨q, hq, rfl⟩ := List.getElem_of_mem hy; exact hN q (by omega) _ (List.getElem?_eq_getElem hq) he))) hS.ext
end Go.Proofs.YtghgnofilbnbaaaGreat
/- part Cz2 -/
namespace Go.Proofs.YtghgnofilbnbaaaGreat
open Go Bx
set_option maxHeartbeats 4000000 in
/-- (barrage/barrageref10.play).confirmed -/
theorem c_rconf {c : Crew} {cs : List Value} {acts : List Acn} {av rv bv ov kv : Value} {i : Nat} {x : Acn} {st : Rm} {w0 : World} (h : RCrew w0 cs c) (hc : CrewOk c) (ha : Sl w0 6 RAct av acts) (hok : RmOk c acts i st) (hx : ActOk c i x) (hall : ∀ (j : Nat) y, acts[j]? = some y → ActOk c j y) (hi : i < acts.length) (hkv : Sl w0 1 RInt kv st.hold) (hbv : Sl w0 1 RBool bv (opnB i st.opn)) (h5 : x.dw = 5) : CV Tryz.prog 73 #[.agg #[rv, bv, ov, kv, .int .i64 st.now], .agg cs.toArray, av, .agg (actC x).toArray] w0 (.int .i64 (confR c acts x st)) := by
  obtain ⟨ov0, kv0, nv, rfl, hso, hsk, hsn, hrm⟩ := id h
  obtain ⟨a, cap, rfl, hcap, hmx, hel⟩ := id hso
  obtain ⟨an, cn, rfl, hncap, hnmx, heln⟩ := id hsn
  obtain ⟨aa, ca, rfl, hacap, hamx, hela⟩ := id ha
  obtain ⟨ah, ch, rfl, hhcap, hhmx, helh⟩ := id hkv
  obtain ⟨ab, cb, rfl, hbcap, hbmx, helb⟩ := id hbv
  rw [opnB_len] at hbcap
  have hxwho := hx.who
  have hxto := hx.to
  have hxdw := hx.dw
  have hxwhat := hx.what
  have hbl := opnB_len i st.opn
  rw [show manyA c i x = (i : Int) from (if_neg (by omega)).trans (if_pos (.inl h5))] at hxwhat
  obtain ⟨m, hm⟩ := Int.eq_ofNat_of_zero_le hxwhat.1
  have hmi : m < i := by omega
  obtain ⟨bq2, oq2, csq2, haq2, hlenq2, hcsq2, hRq2⟩ := helb m (by omega)
  obtain rfl : csq2 = [.bool (decide (x.what ∈ st.opn))] := by
    have h9 := opnB_get (opn := st.opn) hmi
    rw [List.getElem?_eq_getElem (by omega)] at h9
    rw [hRq2, Option.some.inj h9, hm]
  refine enter Tryz.func73 rfl Tryz.ntmps73 rfl ?_
  have hS := St.start w0
  refine seq ?_
  refine region ?_
  refine sbox hS rfl rfl ?_; clear hS; intro b4 w hS
  refine sbox hS rfl rfl ?_; clear hS; intro b5 w hS
  refine sbox hS rfl rfl ?_; clear hS; intro b7 w hS
  refine sv (yAsg rfl) ?_
  refine nil ?_
  show Code.wp _ _ _ _ _
  refine seq ?_
  refine seq ?_
  refine region ?_
  refine sv (fa60_1 rfl) ?_
  refine sv (yLdB rfl Tryz.isAgg58 (hS.at _) rfl) ?_
  refine sv (fa86_3 rfl) ?_
  refine sv (yLdB rfl Tryz.isAgg3 (hS.at _) rfl) ?_
  refine sv (yIxa rfl haq2 (rfl.trans (congrArg (Value.int .i64) hm)) Tryz.runUnderlying58 Tryz.sizeOf4 (by omega) (by omega)) ?_
  refine sv (yLd rfl Tryz.isAgg4 ((hcsq2.ext hS.ext).one)) ?_
  refine sv (yNot rfl) ?_
  refine nil ?_
  show Code.wp _ _ _ _ _
  refine cond rfl (fun c17 => ?_) (fun c17 => ?_)
  ·
    simp only [Bool.and_eq_true, Bool.or_eq_true, Bool.and_eq_false_iff, Bool.or_eq_false_iff, decide_eq_true_eq, decide_eq_false_iff_not, Bool.not_eq_true, Bool.not_eq_false, Bool.not_not, Bool.not_eq_eq_eq_not, Bool.not_true, Bool.not_false, Bool.false_eq_true, Bool.true_eq_false, ne_eq, Decidable.not_not, not_false_eq_true, not_true_eq_false] at c17
    refine seq ?_
    refine region ?_
    refine sv (yAsg rfl) ?_
    refine nil ?_
    show Code.wp _ _ _ _ _
    refine wp_ret (thenR ?_)
    exact retV (res1 rfl (eqI (by unfold confR; exact if_pos (by simpa using c17)))) hS.ext
  ·
    simp only [Bool.and_eq_true, Bool.or_eq_true, Bool.and_eq_false_iff, Bool.or_eq_false_iff, decide_eq_true_eq, decide_eq_false_iff_not, Bool.not_eq_true, Bool.not_eq_false, Bool.not_not, Bool.not_eq_eq_eq_not, Bool.not_true, Bool.not_false, Bool.false_eq_true, Bool.true_eq_false, ne_eq, Decidable.not_not, not_false_eq_true, not_true_eq_false] at c17
    have hmm : x.what ∈ st.opn := by simpa using c17
    have hop := hok.opn _ hmm
    have hk2 : m < acts.length := by omega
    obtain ⟨z, hxq, hdq⟩ := drop_of (l := acts) (k := m) (by omega)
    obtain ⟨bq, oq, csq, haq, hlenq, hcsq, hRq⟩ := hela (m) (by omega)
    obtain rfl : z = acts[m] := (List.getElem?_eq_some_iff.1 hxq).2.symm
    generalize acts[m] = z at hxq hdq hRq
    obtain ⟨rfl, hiq⟩ := hRq
    replace hcsq : Cells w0 bq (oq + m * 6) [.int .i64 z.tm, .int .i64 z.who, .int .i64 z.dw, .int .i64 z.what, .int .i64 z.to, .int .i64 z.subj] := hcsq
    have hZ := hall m z hxq
    have hz := actAt_hit hm hxq
    have hzd : z.dw = 4 := by rw [← hz]; exact hop.2.2
    have hwh := hZ.what
    rw [show manyA c m z = c.kinds.length from if_pos hzd] at hwh
    obtain ⟨t, ht⟩ := Int.eq_ofNat_of_zero_le hwh.1
    have ht2 : t < c.kinds.length := by omega
    obtain ⟨y, hxt, hdt⟩ := drop_of (l := c.kinds) (k := t) (by omega)
    obtain ⟨bt, ot, cst, hat, hlent, hcst, hRt⟩ := heln (t) (by omega)
    obtain rfl : y = c.kinds[t] := (List.getElem?_eq_some_iff.1 hxt).2.symm
    generalize c.kinds[t] = y at hxt hdt hRt
    obtain ⟨xvt, rfl, hnmt, hgrt, hset, hwit, hskt, hrzt⟩ := hRt
    obtain ⟨akt, ckt, rfl, -⟩ := id hskt
    have hy := kndAt_hit ht hxt
    have hkz := kndOk_of (hc.kinds y (List.mem_of_getElem? hxt))
    have hkw := hkz.within
    have hztm := hZ.tm
    have hkeys : ∀ y' ∈ y.keys, 0 ≤ y' ∧ y' < st.hold.length := fun y' hy' => by have := hkz.keys y' hy'; rw [hok.len]; exact this
    have hconf : ∀ v, confR c acts x st = v ↔ (if z.tm + y.within < x.tm then (205 : Int) else if x.who = z.who then 204 else if gradeOf c x.who < y.second then 203 else if onB c z.who x.tm = false then 201 else if keyR y st.hold x.who z.who = true then 202 else 0) = v := fun v => by unfold confR; simp only [hz, hy]; rw [if_neg (not_not_intro hmm)]
    refine skip ?_
    show Code.wp _ _ _ _ _
    refine seq ?_
    refine cutK (fun f => f 2 = .slice aa acts.length ca ∧ f 4 = .pointer (some ⟨b4, 0, none⟩) ∧ f 5 = .pointer (some ⟨b5, 0, none⟩) ∧ f 7 = .pointer (some ⟨b7, 0, none⟩) ∧ True) ⟨rfl, rfl, rfl, rfl, trivial⟩ ?_
    rintro f ⟨h2, h4, h5, h7, -⟩
    refine region ?_
    refine sv (yMove h2) ?_
    refine sv (fa86_3 h7) ?_
    refine sv (yLdB rfl Tryz.isAgg3 (hS.at _) rfl) ?_
    refine sv (yIxa rfl haq (rfl.trans (congrArg (Value.int .i64) hm)) Tryz.runUnderlying27 Tryz.sizeOf86 (by omega) (by omega)) ?_
    refine sv (yLdA rfl Tryz.isAgg86 Tryz.sizeOf86 (hcsq.ext hS.ext) rfl) ?_
    refine salloc hS Tryz.zeroValue86 rfl ?_; clear hS; intro b9 w hS
    refine sst hS rfl rfl Tryz.sizeOf86 rfl rfl rfl rfl ?_; clear hS; intro w hS
    refine nil ?_
    show Code.wp _ _ _ _ _
    refine seq ?_
    refine region ?_
    replace hS : StX [] w0 w (blk b9 [.int .i64 z.tm, .int .i64 z.who, .int .i64 z.dw, .int .i64 z.what, .int .i64 z.to, .int .i64 z.subj] 86 :: blk b7 [.int .i64 x.tm, .int .i64 x.who, .int .i64 x.dw, .int .i64 x.what, .int .i64 x.to, .int .i64 x.subj] 86 :: blk b5 [.slice a c.ops.length cap, kv0, .slice an c.kinds.length cn] 26 :: blk b4 [rv, .slice ab (opnB i st.opn).length cb, ov, .slice ah st.hold.length ch, .int .i64 st.now] 60 :: []) := hS
    refine sv (fa26_2 h5) ?_
    refine sv (yLdB rfl Tryz.isAgg24 (hS.at _) rfl) ?_
    refine sv (fa86_3 rfl) ?_
    refine sv (yLdB rfl Tryz.isAgg3 (hS.at _) rfl) ?_
    refine sv (yIxa rfl hat (rfl.trans (congrArg (Value.int .i64) ht)) Tryz.runUnderlying24 Tryz.sizeOf92 (by omega) (by omega)) ?_
    refine sv (yLdA rfl Tryz.isAgg92 Tryz.sizeOf92 (hcst.ext hS.ext) rfl) ?_
    refine salloc hS Tryz.zeroValue92 rfl ?_; clear hS; intro b10 w hS
    refine sst hS rfl rfl Tryz.sizeOf92 rfl rfl rfl rfl ?_; clear hS; intro w hS
    refine nil ?_
    show Code.wp _ _ _ _ _
    refine seq ?_
    refine seq ?_
    refine cutK (fun f => f 4 = .pointer (some ⟨b4, 0, none⟩) ∧ f 5 = .pointer (some ⟨b5, 0, none⟩) ∧ f 7 = .pointer (some ⟨b7, 0, none⟩) ∧ f 9 = .pointer (some ⟨b9, 0, none⟩) ∧ f 10 = .pointer (some ⟨b10, 0, none⟩) ∧ True) ⟨h4, h5, h7, rfl, rfl, trivial⟩ ?_
    rintro f ⟨h4, h5, h7, h9, h10, -⟩
    refine region ?_
    replace hS : StX [] w0 w (blk b10 [.string y.name, .int .i64 y.grade, .int .i64 y.second, .int .i64 y.within, .slice akt y.keys.length ckt, .bool y.split] 92 :: blk b9 [.int .i64 z.tm, .int .i64 z.who, .int .i64 z.dw, .int .i64 z.what, .int .i64 z.to, .int .i64 z.subj] 86 :: blk b7 [.int .i64 x.tm, .int .i64 x.who, .int .i64 x.dw, .int .i64 x.what, .int .i64 x.to, .int .i64 x.subj] 86 :: blk b5 [.slice a c.ops.length cap, kv0, .slice an c.kinds.length cn] 26 :: blk b4 [rv, .slice ab (opnB i st.opn).length cb, ov, .slice ah st.hold.length ch, .int .i64 st.now] 60 :: []) := hS
    refine sv (fa86_0 h7) ?_
    refine sv (yLdB rfl Tryz.isAgg3 (hS.at _) rfl) ?_
    refine sv (fa86_0 h9) ?_
    refine sv (yLdB rfl Tryz.isAgg3 (hS.at _) rfl) ?_
    refine sv (fa92_3 h10) ?_
    refine sv (yLdB rfl Tryz.isAgg3 (hS.at _) rfl) ?_
    refine sv (yAdd rfl rfl ⟨by omega, by omega⟩) ?_
    refine sv (yGtr rfl rfl) ?_
    refine nil ?_
    show Code.wp _ _ _ _ _
    refine cond rfl (fun c36 => ?_) (fun c36 => ?_)
    ·
      simp only [Bool.and_eq_true, Bool.or_eq_true, Bool.and_eq_false_iff, Bool.or_eq_false_iff, decide_eq_true_eq, decide_eq_false_iff_not, Bool.not_eq_true, Bool.not_eq_false, Bool.not_not, Bool.not_eq_eq_eq_not, Bool.not_true, Bool.not_false, Bool.false_eq_true, Bool.true_eq_false, ne_eq, Decidable.not_not, not_false_eq_true, not_true_eq_false] at c36
      refine seq ?_
      refine region ?_
      refine sv (yAsg rfl) ?_
      refine nil ?_
      show Code.wp _ _ _ _ _
      refine wp_ret (thenR ?_)
      exact retV (res1 rfl (eqI ((hconf _).2 (if_pos c36)))) hS.ext
    ·
      simp only [Bool.and_eq_true, Bool.or_eq_true, Bool.and_eq_false_iff, Bool.or_eq_false_iff, decide_eq_true_eq, decide_eq_false_iff_not, Bool.not_eq_true, Bool.not_eq_false, Bool.not_not, Bool.not_eq_eq_eq_not, Bool.not_true, Bool.not_false, Bool.false_eq_true, Bool.true_eq_false, ne_eq, Decidable.not_not, not_false_eq_true, not_true_eq_false] at c36
      refine skip ?_
      show Code.wp _ _ _ _ _
      refine seq ?_
      refine seq ?_
      refine region ?_
      refine sv (fa86_1 h7) ?_
      refine sv (yLdB rfl Tryz.isAgg3 (hS.at _) rfl) ?_
      refine sv (fa86_1 h9) ?_
      refine sv (yLdB rfl Tryz.isAgg3 (hS.at _) rfl) ?_
      refine sv (yEql rfl rfl) ?_
      refine nil ?_
      show Code.wp _ _ _ _ _
      refine cond rfl (fun c41 => ?_) (fun c41 => ?_)
      ·
        simp only [Bool.and_eq_true, Bool.or_eq_true, Bool.and_eq_false_iff, Bool.or_eq_false_iff, decide_eq_true_eq, decide_eq_false_iff_not, Bool.not_eq_true, Bool.not_eq_false, Bool.not_not, Bool.not_eq_eq_eq_not, Bool.not_true, Bool.not_false, Bool.false_eq_true, Bool.true_eq_false, ne_eq, Decidable.not_not, not_false_eq_true, not_true_eq_false] at c41
        refine seq ?_
        refine region ?_
        refine sv (yAsg rfl) ?_
        refine nil ?_
        show Code.wp _ _ _ _ _
        refine wp_ret (thenR ?_)
        exact retV (res1 rfl (eqI ((hconf _).2 (by rw [if_neg c36, if_pos c41])))) hS.ext
      ·
        simp only [Bool.and_eq_true, Bool.or_eq_true, Bool.and_eq_false_iff, Bool.or_eq_false_iff, decide_eq_true_eq, decide_eq_false_iff_not, Bool.not_eq_true, Bool.not_eq_false, Bool.not_not, Bool.not_eq_eq_eq_not, Bool.not_true, Bool.not_false, Bool.false_eq_true, Bool.true_eq_false, ne_eq, Decidable.not_not, not_false_eq_true, not_true_eq_false] at c41
        refine skip ?_
        show Code.wp _ _ _ _ _
        refine seq ?_
        refine seq ?_
        refine region_draw mixed (by kernel_rfl) hS ?_
        obtain ⟨q, hq⟩ := Int.eq_ofNat_of_zero_le hxwho.1
        have hq2 : q < c.ops.length := by omega
        obtain ⟨u, hxo, hdo⟩ := drop_of (l := c.ops) (k := q) (by omega)
        obtain ⟨bo, oo, cso, hao, hleno, hcso, hRo⟩ := hel (q) (by omega)
        obtain rfl : u = c.ops[q] := (List.getElem?_eq_some_iff.1 hxo).2.symm
        generalize c.ops[q] = u at hxo hdo hRo
        obtain ⟨dvo, rfl, huno, hugo, hsdo, hrdo⟩ := hRo
        have hu := oprGrade hq hxo
        refine qv (fun w hS => (fa26_0 h5)) ?_
        refine qv (fun w hS => (yLdB rfl Tryz.isAgg22 (hS.at _) rfl)) ?_
        refine qv (fun w hS => (fa86_1 h7)) ?_
        refine qv (fun w hS => (yLdB rfl Tryz.isAgg3 (hS.at _) rfl)) ?_
        refine qv (fun w hS => (yIxa rfl hao (rfl.trans (congrArg (Value.int .i64) hq)) Tryz.runUnderlying22 Tryz.sizeOf97 (by omega) (by omega))) ?_
        refine qv (fun w hS => (fa97_1 rfl)) ?_
        refine qv (fun w hS => (yLd rfl Tryz.isAgg3 ((hcso.ext hS.ext).at (j := 1) rfl))) ?_
        refine qv (fun w hS => (fa92_2 h10)) ?_
        refine qv (fun w hS => (yLdB rfl Tryz.isAgg3 (hS.at _) rfl)) ?_
        refine qv (fun w hS => (yLss rfl rfl)) ?_
        clear hS; refine qnil (fun w hS => ?_)
        show Code.wp _ _ _ _ _
        refine cond rfl (fun c51 => ?_) (fun c51 => ?_)
        ·
          simp only [Bool.and_eq_true, Bool.or_eq_true, Bool.and_eq_false_iff, Bool.or_eq_false_iff, decide_eq_true_eq, decide_eq_false_iff_not, Bool.not_eq_true, Bool.not_eq_false, Bool.not_not, Bool.not_eq_eq_eq_not, Bool.not_true, Bool.not_false, Bool.false_eq_true, Bool.true_eq_false, ne_eq, Decidable.not_not, not_false_eq_true, not_true_eq_false] at c51
          refine seq ?_
          refine region ?_
          refine sv (yAsg rfl) ?_
          refine nil ?_
          show Code.wp _ _ _ _ _
          refine wp_ret (thenR ?_)
          exact retV (res1 rfl (eqI ((hconf _).2 (by rw [if_neg c36, if_neg c41, hu, if_pos c51])))) hS.ext
        ·
          simp only [Bool.and_eq_true, Bool.or_eq_true, Bool.and_eq_false_iff, Bool.or_eq_false_iff, decide_eq_true_eq, decide_eq_false_iff_not, Bool.not_eq_true, Bool.not_eq_false, Bool.not_not, Bool.not_eq_eq_eq_not, Bool.not_true, Bool.not_false, Bool.false_eq_true, Bool.true_eq_false, ne_eq, Decidable.not_not, not_false_eq_true, not_true_eq_false] at c51
          refine skip ?_
          show Code.wp _ _ _ _ _
          refine seq ?_
          refine seq ?_
          refine region ?_
          refine sv (yLdBA h5 Tryz.isAgg26 Tryz.sizeOf26 (hS.at _) rfl rfl) ?_
          refine sv (fa86_1 h9) ?_
          refine sv (yLdB rfl Tryz.isAgg3 (hS.at _) rfl) ?_
          refine sv (fa86_0 h7) ?_
          refine sv (yLdB rfl Tryz.isAgg3 (hS.at _) rfl) ?_
          refine scall Tryz.call71 (.cons rfl (.cons rfl (.cons rfl .nil))) (c_ron (h.ext hS.ext) hZ.who) ?_
          rintro _ w ⟨rfl, hE⟩; replace hS := hS.step hE; clear hE
          refine sv (yNot rfl) ?_
          refine nil ?_
          show Code.wp _ _ _ _ _
          refine cond rfl (fun c58 => ?_) (fun c58 => ?_)
          ·
            simp only [Bool.and_eq_true, Bool.or_eq_true, Bool.and_eq_false_iff, Bool.or_eq_false_iff, decide_eq_true_eq, decide_eq_false_iff_not, Bool.not_eq_true, Bool.not_eq_false, Bool.not_not, Bool.not_eq_eq_eq_not, Bool.not_true, Bool.not_false, Bool.false_eq_true, Bool.true_eq_false, ne_eq, Decidable.not_not, not_false_eq_true, not_true_eq_false] at c58
            refine seq ?_
            refine region ?_
            refine sv (yAsg rfl) ?_
            refine nil ?_
            show Code.wp _ _ _ _ _
            refine wp_ret (thenR ?_)
            exact retV (res1 rfl (eqI ((hconf _).2 (by rw [if_neg c36, if_neg c41, hu, if_neg c51, if_pos (by simpa using c58)])))) hS.ext
          ·
            simp only [Bool.and_eq_true, Bool.or_eq_true, Bool.and_eq_false_iff, Bool.or_eq_false_iff, decide_eq_true_eq, decide_eq_false_iff_not, Bool.not_eq_true, Bool.not_eq_false, Bool.not_not, Bool.not_eq_eq_eq_not, Bool.not_true, Bool.not_false, Bool.false_eq_true, Bool.true_eq_false, ne_eq, Decidable.not_not, not_false_eq_true, not_true_eq_false] at c58
            refine skip ?_
            show Code.wp _ _ _ _ _
            refine seq ?_
            refine seq ?_
            refine cutK (fun f => f 4 = .pointer (some ⟨b4, 0, none⟩) ∧ f 7 = .pointer (some ⟨b7, 0, none⟩) ∧ f 9 = .pointer (some ⟨b9, 0, none⟩) ∧ f 10 = .pointer (some ⟨b10, 0, none⟩) ∧ True) ⟨h4, h7, h9, h10, trivial⟩ ?_
            rintro f ⟨h4, h7, h9, h10, -⟩
            refine region ?_
            refine sv (yLdBA h4 Tryz.isAgg60 Tryz.sizeOf60 (hS.at _) rfl rfl) ?_
            refine sv (fa92_4 h10) ?_
            refine sv (yLdB rfl Tryz.isAgg37 (hS.at _) rfl) ?_
            refine sv (fa86_1 h7) ?_
            refine sv (yLdB rfl Tryz.isAgg3 (hS.at _) rfl) ?_
            refine sv (fa86_1 h9) ?_
            refine sv (yLdB rfl Tryz.isAgg3 (hS.at _) rfl) ?_
            refine scall Tryz.call72 (.cons rfl (.cons rfl (.cons rfl (.cons rfl .nil)))) (c_holds (hkv.ext RInt.stays hS.ext) (hskt.ext RInt.stays hS.ext) hkeys) ?_
            rintro _ w ⟨rfl, hE⟩; replace hS := hS.step hE; clear hE
            refine sv (yNot rfl) ?_
            refine sv (yMove rfl) ?_
            refine sg rfl rfl rfl (fun g => (fa92_5 h10)) (fun v69 g69 => ?_)
            refine sg rfl rfl rfl (fun g => (yLdB (g69.1 g) Tryz.isAgg4 (hS.at _) rfl)) (fun v70 g70 => ?_)
            refine sg rfl rfl rfl (fun g => (yMove (g70.1 g))) (fun v71 g71 => ?_)
            refine sgg rfl rfl g71 (fun g => (yLdBA h4 Tryz.isAgg60 Tryz.sizeOf60 (hS.at _) rfl rfl)) (fun v72 g72 => ?_)
            refine sgg rfl rfl g71 (fun g => (fa92_4 h10)) (fun v73 g73 => ?_)
            refine sgg rfl rfl g71 (fun g => (yLdB (g73.1 g) Tryz.isAgg37 (hS.at _) rfl)) (fun v74 g74 => ?_)
            refine sgg rfl rfl g71 (fun g => (fa86_1 h7)) (fun v75 g75 => ?_)
            refine sgg rfl rfl g71 (fun g => (yLdB (g75.1 g) Tryz.isAgg3 (hS.at _) rfl)) (fun v76 g76 => ?_)
            refine sggc hS rfl rfl g71 Tryz.call88 (fun g => (.cons (g72.1 g) (.cons (g74.1 g) (.cons (g76.1 g) .nil)))) (fun g => (c_one (hkv.ext RInt.stays hS.ext) (hskt.ext RInt.stays hS.ext) hkeys)) ?_; clear hS; intro v77 w hS g77
            refine sgg rfl rfl g71 (fun g => (yNot (g77.1 g))) (fun v78 g78 => ?_)
            refine sgg rfl rfl g71 (fun g => (yMove (g78.1 g))) (fun v79 g79 => ?_)
            refine sgg rfl rfl g79 (fun g => (yLdBA h4 Tryz.isAgg60 Tryz.sizeOf60 (hS.at _) rfl rfl)) (fun v80 g80 => ?_)
            refine sgg rfl rfl g79 (fun g => (fa92_4 h10)) (fun v81 g81 => ?_)
            refine sgg rfl rfl g79 (fun g => (yLdB (g81.1 g) Tryz.isAgg37 (hS.at _) rfl)) (fun v82 g82 => ?_)
            refine sgg rfl rfl g79 (fun g => (fa86_1 h9)) (fun v83 g83 => ?_)
            refine sgg rfl rfl g79 (fun g => (yLdB (g83.1 g) Tryz.isAgg3 (hS.at _) rfl)) (fun v84 g84 => ?_)
            refine sggc hS rfl rfl g79 Tryz.call88 (fun g => (.cons (g80.1 g) (.cons (g82.1 g) (.cons (g84.1 g) .nil)))) (fun g => (c_one (hkv.ext RInt.stays hS.ext) (hskt.ext RInt.stays hS.ext) hkeys)) ?_; clear hS; intro v85 w hS g85
            refine sgg rfl rfl g79 (fun g => (yNot (g85.1 g))) (fun v86 g86 => ?_)
            refine sgg rfl rfl g71 (fun g => (yOr (g79.1 g) rfl (fun hB => (g86.1 ⟨g, hB⟩)))) (fun v87 g87 => ?_)
            refine sg rfl rfl rfl (fun g => (yAnd (g71.1 g) (fun hB => (g87.1 ⟨g, hB⟩)) rfl)) (fun v88 g88 => ?_)
            refine sv (yOr rfl rfl (fun hB => (g88.1 hB))) ?_
            refine nil ?_
            show Code.wp _ _ _ _ _
            refine cond rfl (fun c89 => ?_) (fun c89 => ?_)
            ·
              refine seq ?_
              refine region ?_
              refine sv (yAsg rfl) ?_
              refine nil ?_
              show Code.wp _ _ _ _ _
              refine wp_ret (thenR ?_)
              exact retV (res1 rfl (eqI ((hconf _).2 (by rw [if_neg c36, if_neg c41, hu, if_neg c51, if_neg (by simpa using c58), if_pos (show keyR y st.hold x.who z.who = true from c89)])))) hS.ext
            ·
              refine skip ?_
              show Code.wp _ _ _ _ _
              refine seq ?_
              refine region ?_
              refine sv (yAsg rfl) ?_
              refine nil ?_
              show Code.wp _ _ _ _ _
              refine wp_ret ?_
              exact retV (res1 rfl (eqI ((hconf _).2 (by rw [if_neg c36, if_neg c41, hu, if_neg c51, if_neg (by simpa using c58), if_neg (by unfold keyR; rw [c89]; decide)])))) hS.ext
end Go.Proofs.YtghgnofilbnbaaaGreat
/- part Cz3 -/
namespace Go.Proofs.YtghgnofilbnbaaaGreat
open Go Bx
set_option maxHeartbeats 8000000 in
/-- (barrage/barrageref10.play).why -/
theorem c_why {c : Crew} {cs : List Value} {acts : List Acn} {av rv bv ov kv : Value} {i : Nat} {x : Acn} {st : Rm} {w0 : World} (h : RCrew w0 cs c) (hc : CrewOk c) (ha : Sl w0 6 RAct av acts) (hok : RmOk c acts i st) (hx : ActOk c i x) (hall : ∀ (j : Nat) y, acts[j]? = some y → ActOk c j y) (hi : i < acts.length) (hkv : Sl w0 1 RInt kv st.hold) (hbv : Sl w0 1 RBool bv (opnB i st.opn)) : CV Tryz.prog 40 #[.agg #[rv, bv, ov, kv, .int .i64 st.now], .agg cs.toArray, av, .agg (actC x).toArray] w0 (.int .i64 (whyR c acts x st)) := by
  obtain ⟨ov0, kv0, nv, rfl, hso, hsk, hsn, hrm⟩ := id h
  obtain ⟨a, cap, rfl, hcap, hmx, hel⟩ := id hso
  obtain ⟨an, cn, rfl, hncap, hnmx, heln⟩ := id hsn
  obtain ⟨aa, ca, rfl, hacap, hamx, hela⟩ := id ha
  obtain ⟨ah, ch, rfl, hhcap, hhmx, helh⟩ := id hkv
  obtain ⟨ab, cb, rfl, hbcap, hbmx, helb⟩ := id hbv
  rw [opnB_len] at hbcap
  have hxwho := hx.who
  have hxto := hx.to
  have hxdw := hx.dw
  have hxwhat := hx.what
  have hbl := opnB_len i st.opn
  refine enter Tryz.func40 rfl Tryz.ntmps40 rfl ?_
  have hS := St.start w0
  refine seq ?_
  refine region ?_
  refine sbox hS rfl rfl ?_; clear hS; intro b4 w hS
  refine sbox hS rfl rfl ?_; clear hS; intro b5 w hS
  refine sbox hS rfl rfl ?_; clear hS; intro b7 w hS
  refine sv (yAsg rfl) ?_
  refine nil ?_
  show Code.wp _ _ _ _ _
  refine seq ?_
  refine seq ?_
  refine region ?_
  refine sv (fa86_0 rfl) ?_
  refine sv (yLdB rfl Tryz.isAgg3 (hS.at _) rfl) ?_
  refine sv (fa60_4 rfl) ?_
  refine sv (yLdB rfl Tryz.isAgg3 (hS.at _) rfl) ?_
  refine sv (yLss rfl rfl) ?_
  refine nil ?_
  show Code.wp _ _ _ _ _
  refine cond rfl (fun c16 => ?_) (fun c16 => ?_)
  ·
    simp only [Bool.and_eq_true, Bool.or_eq_true, Bool.and_eq_false_iff, Bool.or_eq_false_iff, decide_eq_true_eq, decide_eq_false_iff_not, Bool.not_eq_true, Bool.not_eq_false, Bool.not_not, Bool.not_eq_eq_eq_not, Bool.not_true, Bool.not_false, Bool.false_eq_true, Bool.true_eq_false, ne_eq, Decidable.not_not, not_false_eq_true, not_true_eq_false] at c16
    refine seq ?_
    refine region ?_
    refine sv (yAsg rfl) ?_
    refine nil ?_
    show Code.wp _ _ _ _ _
    refine wp_ret (thenR ?_)
    exact retV (res1 rfl (eqI (if_pos c16))) hS.ext
  ·
    simp only [Bool.and_eq_true, Bool.or_eq_true, Bool.and_eq_false_iff, Bool.or_eq_false_iff, decide_eq_true_eq, decide_eq_false_iff_not, Bool.not_eq_true, Bool.not_eq_false, Bool.not_not, Bool.not_eq_eq_eq_not, Bool.not_true, Bool.not_false, Bool.false_eq_true, Bool.true_eq_false, ne_eq, Decidable.not_not, not_false_eq_true, not_true_eq_false] at c16
    refine skip ?_
    show Code.wp _ _ _ _ _
    refine seq ?_
    refine seq ?_
    refine region ?_
    refine sv (yLdBA rfl Tryz.isAgg26 Tryz.sizeOf26 (hS.at _) rfl rfl) ?_
    refine sv (fa86_1 rfl) ?_
    refine sv (yLdB rfl Tryz.isAgg3 (hS.at _) rfl) ?_
    refine sv (fa86_0 rfl) ?_
    refine sv (yLdB rfl Tryz.isAgg3 (hS.at _) rfl) ?_
    refine scall Tryz.call71 (.cons rfl (.cons rfl (.cons rfl .nil))) (c_ron (h.ext hS.ext) hxwho) ?_
    rintro _ w ⟨rfl, hE⟩; replace hS := hS.step hE; clear hE
    refine sv (yNot rfl) ?_
    refine sv (yMove rfl) ?_
    refine sg rfl rfl rfl (fun g => (fa86_2 rfl)) (fun v25 g25 => ?_)
    refine sg rfl rfl rfl (fun g => (yLdB (g25.1 g) Tryz.isAgg3 (hS.at _) rfl)) (fun v26 g26 => ?_)
    refine sg rfl rfl rfl (fun g => (yEql (g26.1 g) rfl)) (fun v27 g27 => ?_)
    refine sg rfl rfl rfl (fun g => (yMove (g27.1 g))) (fun v28 g28 => ?_)
    refine sgg rfl rfl g28 (fun g => (yLdBA rfl Tryz.isAgg26 Tryz.sizeOf26 (hS.at _) rfl rfl)) (fun v29 g29 => ?_)
    refine sgg rfl rfl g28 (fun g => (fa86_4 rfl)) (fun v30 g30 => ?_)
    refine sgg rfl rfl g28 (fun g => (yLdB (g30.1 g) Tryz.isAgg3 (hS.at _) rfl)) (fun v31 g31 => ?_)
    refine sgg rfl rfl g28 (fun g => (fa86_0 rfl)) (fun v32 g32 => ?_)
    refine sgg rfl rfl g28 (fun g => (yLdB (g32.1 g) Tryz.isAgg3 (hS.at _) rfl)) (fun v33 g33 => ?_)
    refine sggc hS rfl rfl g28 Tryz.call71 (fun g => (.cons (g29.1 g) (.cons (g31.1 g) (.cons (g33.1 g) .nil)))) (fun g => (c_ron (h.ext hS.ext) hxto)) ?_; clear hS; intro v34 w hS g34
    refine sgg rfl rfl g28 (fun g => (yNot (g34.1 g))) (fun v35 g35 => ?_)
    refine sg rfl rfl rfl (fun g => (yAnd (g28.1 g) (fun hB => (g35.1 ⟨g, hB⟩)) rfl)) (fun v36 g36 => ?_)
    refine sv (yOr rfl rfl (fun hB => (g36.1 hB))) ?_
    refine nil ?_
    show Code.wp _ _ _ _ _
    refine cond rfl (fun c37 => ?_) (fun c37 => ?_)
    ·
      refine seq ?_
      refine region ?_
      refine sv (yAsg rfl) ?_
      refine nil ?_
      show Code.wp _ _ _ _ _
      refine wp_ret (thenR ?_)
      exact retV (res1 rfl (eqI (by unfold whyR; rw [if_neg c16, if_pos c37]))) hS.ext
    ·
      refine skip ?_
      show Code.wp _ _ _ _ _
      refine seqJ (n := 152) (fun f w => f 2 = .slice aa acts.length ca ∧ f 4 = .pointer (some ⟨b4, 0, none⟩) ∧ f 5 = .pointer (some ⟨b5, 0, none⟩) ∧ f 7 = .pointer (some ⟨b7, 0, none⟩) ∧ StX [] w0 w [blk b7 [.int .i64 x.tm, .int .i64 x.who, .int .i64 x.dw, .int .i64 x.what, .int .i64 x.to, .int .i64 x.subj] 86, blk b5 [.slice a c.ops.length cap, kv0, .slice an c.kinds.length cn] 26, blk b4 [rv, .slice ab (opnB i st.opn).length cb, ov, .slice ah st.hold.length ch, .int .i64 st.now] 60] ∧ (¬ x.tm < st.now) ∧ (¬ (!onB c x.who x.tm || (decide (x.dw = 2) && !onB c x.to x.tm)) = true) ∧ (¬ (x.dw = 1 ∧ 0 ≤ holdAt st.hold x.what ∧ onB c (holdAt st.hold x.what) x.tm = true)) ∧ True) ?_ ?_
      ·
        refine seq ?_
        refine cutK (fun f => f 2 = .slice aa acts.length ca ∧ f 4 = .pointer (some ⟨b4, 0, none⟩) ∧ f 5 = .pointer (some ⟨b5, 0, none⟩) ∧ f 7 = .pointer (some ⟨b7, 0, none⟩) ∧ True) ⟨rfl, rfl, rfl, rfl, trivial⟩ ?_
        rintro f ⟨h2, h4, h5, h7, -⟩
        refine region ?_
        refine sv (fa86_2 h7) ?_
        refine sv (yLdB rfl Tryz.isAgg3 (hS.at _) rfl) ?_
        refine sv (yEql rfl rfl) ?_
        refine nil ?_
        show Code.wp _ _ _ _ _
        refine cond rfl (fun c40 => ?_) (fun c40 => ?_)
        ·
          simp only [Bool.and_eq_true, Bool.or_eq_true, Bool.and_eq_false_iff, Bool.or_eq_false_iff, decide_eq_true_eq, decide_eq_false_iff_not, Bool.not_eq_true, Bool.not_eq_false, Bool.not_not, Bool.not_eq_eq_eq_not, Bool.not_true, Bool.not_false, Bool.false_eq_true, Bool.true_eq_false, ne_eq, Decidable.not_not, not_false_eq_true, not_true_eq_false] at c40
          have hwk := hxwhat
          rw [show manyA c i x = c.keys.length from (if_neg (by omega)).trans (if_neg (by omega)), ← hok.len] at hwk
          obtain ⟨m, hm⟩ := Int.eq_ofNat_of_zero_le hwk.1
          have hml : m < st.hold.length := by omega
          obtain ⟨y, hxu, hdu⟩ := drop_of (l := st.hold) (k := m) (by omega)
          obtain ⟨bu, ou, csu, hau, hlenu, hcsu, hRu⟩ := helh (m) (by omega)
          obtain rfl : y = st.hold[m] := (List.getElem?_eq_some_iff.1 hxu).2.symm
          generalize st.hold[m] = y at hxu hdu hRu
          obtain ⟨rfl, hyi⟩ := hRu
          have hhy : holdAt st.hold x.what = y := by unfold holdAt; rw [hm, Int.toNat_natCast, getD_hit hxu]
          have hyb := hok.hold y (List.mem_of_getElem? hxu)
          refine seq ?_
          refine region ?_
          refine sv (fa60_3 h4) ?_
          refine sv (yLdB rfl Tryz.isAgg37 (hS.at _) rfl) ?_
          refine sv (fa86_3 h7) ?_
          refine sv (yLdB rfl Tryz.isAgg3 (hS.at _) rfl) ?_
          refine sv (yIxa rfl hau (rfl.trans (congrArg (Value.int .i64) hm)) Tryz.runUnderlying37 Tryz.sizeOf3 (by omega) (by omega)) ?_
          refine sv (yLd rfl Tryz.isAgg3 ((hcsu.ext hS.ext).one)) ?_
          refine sv (yAsg rfl) ?_
          refine nil ?_
          show Code.wp _ _ _ _ _
          refine seq ?_
          refine region ?_
          refine sv (yMove rfl) ?_
          refine sv (yGeq rfl rfl) ?_
          refine sv (yMove rfl) ?_
          refine sg rfl rfl rfl (fun g => (yLdBA h5 Tryz.isAgg26 Tryz.sizeOf26 (hS.at _) rfl rfl)) (fun v50 g50 => ?_)
          refine sg rfl rfl rfl (fun g => (yMove rfl)) (fun v51 g51 => ?_)
          refine sg rfl rfl rfl (fun g => (fa86_0 h7)) (fun v52 g52 => ?_)
          refine sg rfl rfl rfl (fun g => (yLdB (g52.1 g) Tryz.isAgg3 (hS.at _) rfl)) (fun v53 g53 => ?_)
          refine sgc hS rfl rfl rfl Tryz.call71 (fun g => (.cons (g50.1 g) (.cons (g51.1 g) (.cons (g53.1 g) .nil)))) (fun g => (c_ron (h.ext hS.ext) ⟨of_decide_eq_true g, by omega⟩)) ?_; clear hS; intro v54 w hS g54
          refine sv (yAnd rfl (fun hB => (g54.1 hB)) rfl) ?_
          refine nil ?_
          show Code.wp _ _ _ _ _
          refine cond rfl (fun c55 => ?_) (fun c55 => ?_)
          ·
            rw [Bool.and_eq_true, decide_eq_true_eq] at c55
            refine seq ?_
            refine region ?_
            refine sv (yAsg rfl) ?_
            refine nil ?_
            show Code.wp _ _ _ _ _
            refine wp_ret (thenR ?_)
            exact retV (res1 rfl (eqI (by unfold whyR; rw [if_neg c16, if_neg (by rw [c37]; decide), if_pos ⟨c40, by rw [hhy]; exact c55.1, by rw [hhy]; exact c55.2⟩]))) hS.ext
          ·
            refine skip ?_
            exact ⟨_, rfl, h2, h4, h5, h7, hS, (c16), (by rw [c37]; decide), (fun h9 => by rw [hhy] at h9; rw [decide_eq_true h9.2.1, h9.2.2] at c55; cases c55), trivial⟩
        ·
          simp only [Bool.and_eq_true, Bool.or_eq_true, Bool.and_eq_false_iff, Bool.or_eq_false_iff, decide_eq_true_eq, decide_eq_false_iff_not, Bool.not_eq_true, Bool.not_eq_false, Bool.not_not, Bool.not_eq_eq_eq_not, Bool.not_true, Bool.not_false, Bool.false_eq_true, Bool.true_eq_false, ne_eq, Decidable.not_not, not_false_eq_true, not_true_eq_false] at c40
          refine skip ?_
          exact ⟨_, rfl, h2, h4, h5, h7, hS, (c16), (by rw [c37]; decide), (fun h9 => c40 h9.1), trivial⟩
      ·
        clear hS; rintro f w ⟨h2, h4, h5, h7, hS, p1, p2, p3, -⟩
        refine seq ?_
        refine seq ?_
        refine region_draw mixed (by kernel_rfl) hS ?_
        obtain ⟨bk, ok9, hkey⟩ : ∃ b2 o2, (x.dw = 2 ∨ x.dw = 3) → ah = some ⟨b2, o2, none⟩ ∧ Cells w0 b2 (o2 + x.what.toNat * 1) [.int .i64 (holdAt st.hold x.what)] ∧ 0 ≤ x.what ∧ x.what < st.hold.length := by
          by_cases hd : x.dw = 2 ∨ x.dw = 3
          · have hwk := hxwhat
            rw [show manyA c i x = c.keys.length from (if_neg (by omega)).trans (if_neg (by omega)), ← hok.len] at hwk
            obtain ⟨m, hm⟩ := Int.eq_ofNat_of_zero_le hwk.1
            have hml : m < st.hold.length := by omega
            obtain ⟨y, hxu, hdu⟩ := drop_of (l := st.hold) (k := m) (by omega)
            obtain ⟨bu, ou, csu, hau, hlenu, hcsu, hRu⟩ := helh (m) (by omega)
            obtain rfl : y = st.hold[m] := (List.getElem?_eq_some_iff.1 hxu).2.symm
            generalize st.hold[m] = y at hxu hdu hRu
            obtain ⟨rfl, hyi⟩ := hRu
            have hhy : holdAt st.hold x.what = y := by unfold holdAt; rw [hm, Int.toNat_natCast, getD_hit hxu]
            exact ⟨bu, ou, fun _ => ⟨hau, by rw [hhy, hm, Int.toNat_natCast]; exact hcsu, by omega, by omega⟩⟩
          · exact ⟨0, 0, fun h9 => absurd h9 hd⟩
        refine qv (fun w hS => (fa86_2 h7)) ?_
        refine qv (fun w hS => (yLdB rfl Tryz.isAgg3 (hS.at _) rfl)) ?_
        refine qv (fun w hS => (yEql rfl rfl)) ?_
        refine qv (fun w hS => (yMove rfl)) ?_
        refine qg rfl rfl rfl (fun g w hS => (fa86_2 h7)) (fun v60 g60 => ?_)
        refine qg rfl rfl rfl (fun g w hS => (yLdB (g60.1 g) Tryz.isAgg3 (hS.at _) rfl)) (fun v61 g61 => ?_)
        refine qg rfl rfl rfl (fun g w hS => (yEql (g61.1 g) rfl)) (fun v62 g62 => ?_)
        refine qv (fun w hS => (yOr rfl rfl (fun hB => (g62.1 hB)))) ?_
        refine qv (fun w hS => (yMove rfl)) ?_
        refine qg rfl rfl rfl (fun g w hS => (fa60_3 h4)) (fun v65 g65 => ?_)
        refine qg rfl rfl rfl (fun g w hS => (yLdB (g65.1 g) Tryz.isAgg37 (hS.at _) rfl)) (fun v66 g66 => ?_)
        refine qg rfl rfl rfl (fun g w hS => (fa86_3 h7)) (fun v67 g67 => ?_)
        refine qg rfl rfl rfl (fun g w hS => (yLdB (g67.1 g) Tryz.isAgg3 (hS.at _) rfl)) (fun v68 g68 => ?_)
        refine qg rfl rfl rfl (fun g w hS => (have hg := hkey (by simpa using g); yIxa (g66.1 g) hg.1 (g68.1 g) Tryz.runUnderlying37 Tryz.sizeOf3 hg.2.2.1 hg.2.2.2)) (fun v69 g69 => ?_)
        refine qg rfl rfl rfl (fun g w hS => (yLd (g69.1 g) Tryz.isAgg3 (((hkey (by simpa using g)).2.1.ext hS.ext).one))) (fun v70 g70 => ?_)
        refine qg rfl rfl rfl (fun g w hS => (fa86_1 h7)) (fun v71 g71 => ?_)
        refine qg rfl rfl rfl (fun g w hS => (yLdB (g71.1 g) Tryz.isAgg3 (hS.at _) rfl)) (fun v72 g72 => ?_)
        refine qg rfl rfl rfl (fun g w hS => (yNeq (g70.1 g) (g72.1 g))) (fun v73 g73 => ?_)
        refine qv (fun w hS => (yAnd rfl (fun hB => (g73.1 hB)) rfl)) ?_
        clear hS; refine qnil (fun w hS => ?_)
        show Code.wp _ _ _ _ _
        refine cond rfl (fun c74 => ?_) (fun c74 => ?_)
        ·
          simp only [Bool.and_eq_true, Bool.or_eq_true, Bool.and_eq_false_iff, Bool.or_eq_false_iff, decide_eq_true_eq, decide_eq_false_iff_not, Bool.not_eq_true, Bool.not_eq_false, Bool.not_not, Bool.not_eq_eq_eq_not, Bool.not_true, Bool.not_false, Bool.false_eq_true, Bool.true_eq_false, ne_eq, Decidable.not_not, not_false_eq_true, not_true_eq_false] at c74
          refine seq ?_
          refine region ?_
          refine sv (yAsg rfl) ?_
          refine nil ?_
          show Code.wp _ _ _ _ _
          refine wp_ret (thenR ?_)
          exact retV (res1 rfl (eqI (by unfold whyR; rw [if_neg p1, if_neg p2, if_neg p3, if_pos c74]))) hS.ext
        ·
          have p4 : ¬ ((x.dw = 2 ∨ x.dw = 3) ∧ holdAt st.hold x.what ≠ x.who) := by rintro ⟨h1, h2⟩; rw [Bool.and_eq_false_iff, Bool.or_eq_false_iff] at c74; rcases c74 with h3 | h3; rcases h1 with h1 | h1; exact of_decide_eq_false h3.1 h1; exact of_decide_eq_false h3.2 h1; exact of_decide_eq_false h3 h2
          refine skip ?_
          show Code.wp _ _ _ _ _
          refine seqJ (n := 152) (fun f w => f 2 = .slice aa acts.length ca ∧ f 4 = .pointer (some ⟨b4, 0, none⟩) ∧ f 5 = .pointer (some ⟨b5, 0, none⟩) ∧ f 7 = .pointer (some ⟨b7, 0, none⟩) ∧ StX [] w0 w [blk b7 [.int .i64 x.tm, .int .i64 x.who, .int .i64 x.dw, .int .i64 x.what, .int .i64 x.to, .int .i64 x.subj] 86, blk b5 [.slice a c.ops.length cap, kv0, .slice an c.kinds.length cn] 26, blk b4 [rv, .slice ab (opnB i st.opn).length cb, ov, .slice ah st.hold.length ch, .int .i64 st.now] 60] ∧ (¬ x.tm < st.now) ∧ (¬ (!onB c x.who x.tm || (decide (x.dw = 2) && !onB c x.to x.tm)) = true) ∧ (¬ (x.dw = 1 ∧ 0 ≤ holdAt st.hold x.what ∧ onB c (holdAt st.hold x.what) x.tm = true)) ∧ (¬ ((x.dw = 2 ∨ x.dw = 3) ∧ holdAt st.hold x.what ≠ x.who)) ∧ (x.dw = 4 → ordR c x st = 0) ∧ True) ?_ ?_
          ·
            refine seq ?_
            refine region ?_
            refine sv (fa86_2 h7) ?_
            refine sv (yLdB rfl Tryz.isAgg3 (hS.at _) rfl) ?_
            refine sv (yEql rfl rfl) ?_
            refine nil ?_
            show Code.wp _ _ _ _ _
            refine cond rfl (fun c77 => ?_) (fun c77 => ?_)
            ·
              simp only [Bool.and_eq_true, Bool.or_eq_true, Bool.and_eq_false_iff, Bool.or_eq_false_iff, decide_eq_true_eq, decide_eq_false_iff_not, Bool.not_eq_true, Bool.not_eq_false, Bool.not_not, Bool.not_eq_eq_eq_not, Bool.not_true, Bool.not_false, Bool.false_eq_true, Bool.true_eq_false, ne_eq, Decidable.not_not, not_false_eq_true, not_true_eq_false] at c77
              have hwh := hxwhat
              rw [show manyA c i x = c.kinds.length from if_pos c77] at hwh
              obtain ⟨t, ht⟩ := Int.eq_ofNat_of_zero_le hwh.1
              have ht2 : t < c.kinds.length := by omega
              obtain ⟨z, hxt, hdt⟩ := drop_of (l := c.kinds) (k := t) (by omega)
              obtain ⟨bt, ot, cst, hat, hlent, hcst, hRt⟩ := heln (t) (by omega)
              obtain rfl : z = c.kinds[t] := (List.getElem?_eq_some_iff.1 hxt).2.symm
              generalize c.kinds[t] = z at hxt hdt hRt
              obtain ⟨xvt, rfl, hnmt, hgrt, hset, hwit, hskt, hrzt⟩ := hRt
              obtain ⟨akt, ckt, rfl, -⟩ := id hskt
              have hzz := kndAt_hit ht hxt
              have hkz := kndOk_of (hc.kinds z (List.mem_of_getElem? hxt))
              have hkeys : ∀ y' ∈ z.keys, 0 ≤ y' ∧ y' < st.hold.length := fun y' hy' => by have := hkz.keys y' hy'; rw [hok.len]; exact this
              refine seq ?_
              refine region ?_
              refine sv (fa26_2 h5) ?_
              refine sv (yLdB rfl Tryz.isAgg24 (hS.at _) rfl) ?_
              refine sv (fa86_3 h7) ?_
              refine sv (yLdB rfl Tryz.isAgg3 (hS.at _) rfl) ?_
              refine sv (yIxa rfl hat (rfl.trans (congrArg (Value.int .i64) ht)) Tryz.runUnderlying24 Tryz.sizeOf92 (by omega) (by omega)) ?_
              refine sv (yLdA rfl Tryz.isAgg92 Tryz.sizeOf92 (hcst.ext hS.ext) rfl) ?_
              refine salloc hS Tryz.zeroValue92 rfl ?_; clear hS; intro b10 w hS
              refine sst hS rfl rfl Tryz.sizeOf92 rfl rfl rfl rfl ?_; clear hS; intro w hS
              refine nil ?_
              show Code.wp _ _ _ _ _
              refine seq ?_
              refine seq ?_
              refine cutK (fun f => f 2 = .slice aa acts.length ca ∧ f 4 = .pointer (some ⟨b4, 0, none⟩) ∧ f 5 = .pointer (some ⟨b5, 0, none⟩) ∧ f 7 = .pointer (some ⟨b7, 0, none⟩) ∧ f 10 = .pointer (some ⟨b10, 0, none⟩) ∧ True) ⟨h2, h4, h5, h7, rfl, trivial⟩ ?_
              rintro f ⟨h2, h4, h5, h7, h10, -⟩
              refine region_draw mixed (by kernel_rfl) hS ?_
              replace hS : StX [] w0 w (blk b10 [.string z.name, .int .i64 z.grade, .int .i64 z.second, .int .i64 z.within, .slice akt z.keys.length ckt, .bool z.split] 92 :: blk b7 [.int .i64 x.tm, .int .i64 x.who, .int .i64 x.dw, .int .i64 x.what, .int .i64 x.to, .int .i64 x.subj] 86 :: blk b5 [.slice a c.ops.length cap, kv0, .slice an c.kinds.length cn] 26 :: blk b4 [rv, .slice ab (opnB i st.opn).length cb, ov, .slice ah st.hold.length ch, .int .i64 st.now] 60 :: []) := hS
              obtain ⟨q, hq⟩ := Int.eq_ofNat_of_zero_le hxwho.1
              have hq2 : q < c.ops.length := by omega
              obtain ⟨u, hxo, hdo⟩ := drop_of (l := c.ops) (k := q) (by omega)
              obtain ⟨bo, oo, cso, hao, hleno, hcso, hRo⟩ := hel (q) (by omega)
              obtain rfl : u = c.ops[q] := (List.getElem?_eq_some_iff.1 hxo).2.symm
              generalize c.ops[q] = u at hxo hdo hRo
              obtain ⟨dvo, rfl, huno, hugo, hsdo, hrdo⟩ := hRo
              have hu := oprGrade hq hxo
              refine qv (fun w hS => (fa26_0 h5)) ?_
              refine qv (fun w hS => (yLdB rfl Tryz.isAgg22 (hS.at _) rfl)) ?_
              refine qv (fun w hS => (fa86_1 h7)) ?_
              refine qv (fun w hS => (yLdB rfl Tryz.isAgg3 (hS.at _) rfl)) ?_
              refine qv (fun w hS => (yIxa rfl hao (rfl.trans (congrArg (Value.int .i64) hq)) Tryz.runUnderlying22 Tryz.sizeOf97 (by omega) (by omega))) ?_
              refine qv (fun w hS => (fa97_1 rfl)) ?_
              refine qv (fun w hS => (yLd rfl Tryz.isAgg3 ((hcso.ext hS.ext).at (j := 1) rfl))) ?_
              refine qv (fun w hS => (fa92_1 h10)) ?_
              refine qv (fun w hS => (yLdB rfl Tryz.isAgg3 (hS.at _) rfl)) ?_
              refine qv (fun w hS => (yLss rfl rfl)) ?_
              clear hS; refine qnil (fun w hS => ?_)
              show Code.wp _ _ _ _ _
              refine cond rfl (fun c93 => ?_) (fun c93 => ?_)
              ·
                simp only [Bool.and_eq_true, Bool.or_eq_true, Bool.and_eq_false_iff, Bool.or_eq_false_iff, decide_eq_true_eq, decide_eq_false_iff_not, Bool.not_eq_true, Bool.not_eq_false, Bool.not_not, Bool.not_eq_eq_eq_not, Bool.not_true, Bool.not_false, Bool.false_eq_true, Bool.true_eq_false, ne_eq, Decidable.not_not, not_false_eq_true, not_true_eq_false] at c93
                refine seq ?_
                refine region ?_
                refine sv (yAsg rfl) ?_
                refine nil ?_
                show Code.wp _ _ _ _ _
                
                refine wp_ret (thenR (thenR ?_))
                exact retV (res1 rfl (eqI (by unfold whyR; rw [if_neg p1, if_neg p2, if_neg p3, if_neg p4, if_pos c77]; unfold ordR; simp only [hzz]; rw [hu, if_pos c93]))) hS.ext
              ·
                simp only [Bool.and_eq_true, Bool.or_eq_true, Bool.and_eq_false_iff, Bool.or_eq_false_iff, decide_eq_true_eq, decide_eq_false_iff_not, Bool.not_eq_true, Bool.not_eq_false, Bool.not_not, Bool.not_eq_eq_eq_not, Bool.not_true, Bool.not_false, Bool.false_eq_true, Bool.true_eq_false, ne_eq, Decidable.not_not, not_false_eq_true, not_true_eq_false] at c93
                refine skip ?_
                show Code.wp _ _ _ _ _
                refine seq ?_
                refine cutK (fun f => f 2 = .slice aa acts.length ca ∧ f 4 = .pointer (some ⟨b4, 0, none⟩) ∧ f 5 = .pointer (some ⟨b5, 0, none⟩) ∧ f 7 = .pointer (some ⟨b7, 0, none⟩) ∧ f 10 = .pointer (some ⟨b10, 0, none⟩) ∧ True) ⟨h2, h4, h5, h7, h10, trivial⟩ ?_
                rintro f ⟨h2, h4, h5, h7, h10, -⟩
                refine region ?_
                refine sv (fa92_2 h10) ?_
                refine sv (yLdB rfl Tryz.isAgg3 (hS.at _) rfl) ?_
                refine sv (yEql rfl rfl) ?_
                refine sv (yMove rfl) ?_
                refine sg rfl rfl rfl (fun g => (yLdBA h4 Tryz.isAgg60 Tryz.sizeOf60 (hS.at _) rfl rfl)) (fun v98 g98 => ?_)
                refine sg rfl rfl rfl (fun g => (fa92_4 h10)) (fun v99 g99 => ?_)
                refine sg rfl rfl rfl (fun g => (yLdB (g99.1 g) Tryz.isAgg37 (hS.at _) rfl)) (fun v100 g100 => ?_)
                refine sg rfl rfl rfl (fun g => (fa86_1 h7)) (fun v101 g101 => ?_)
                refine sg rfl rfl rfl (fun g => (yLdB (g101.1 g) Tryz.isAgg3 (hS.at _) rfl)) (fun v102 g102 => ?_)
                refine sg rfl rfl rfl (fun g => (fa86_1 h7)) (fun v103 g103 => ?_)
                refine sg rfl rfl rfl (fun g => (yLdB (g103.1 g) Tryz.isAgg3 (hS.at _) rfl)) (fun v104 g104 => ?_)
                refine sgc hS rfl rfl rfl Tryz.call72 (fun g => (.cons (g98.1 g) (.cons (g100.1 g) (.cons (g102.1 g) (.cons (g104.1 g) .nil))))) (fun g => (c_holds (hkv.ext RInt.stays hS.ext) (hskt.ext RInt.stays hS.ext) hkeys)) ?_; clear hS; intro v105 w hS g105
                refine sg rfl rfl rfl (fun g => (yNot (g105.1 g))) (fun v106 g106 => ?_)
                refine sv (yAnd rfl (fun hB => (g106.1 hB)) rfl) ?_
                refine nil ?_
                show Code.wp _ _ _ _ _
                refine cond rfl (fun c107 => ?_) (fun c107 => ?_)
                ·
                  refine seq ?_
                  refine region ?_
                  refine sv (yAsg rfl) ?_
                  refine nil ?_
                  show Code.wp _ _ _ _ _
                  
                  refine wp_ret (thenR ?_)
                  exact retV (res1 rfl (eqI (by unfold whyR; rw [if_neg p1, if_neg p2, if_neg p3, if_neg p4, if_pos c77]; unfold ordR; simp only [hzz]; rw [hu, if_neg c93, if_pos c107]))) hS.ext
                ·
                  refine skip ?_
                  exact ⟨_, rfl, h2, h4, h5, h7, (hS.sub (.cons _ (List.Sublist.refl _))), (p1), (p2), (p3), (p4), (fun _ => by unfold ordR; simp only [hzz]; rw [hu, if_neg c93, if_neg (by rw [c107]; decide)]), trivial⟩
            ·
              simp only [Bool.and_eq_true, Bool.or_eq_true, Bool.and_eq_false_iff, Bool.or_eq_false_iff, decide_eq_true_eq, decide_eq_false_iff_not, Bool.not_eq_true, Bool.not_eq_false, Bool.not_not, Bool.not_eq_eq_eq_not, Bool.not_true, Bool.not_false, Bool.false_eq_true, Bool.true_eq_false, ne_eq, Decidable.not_not, not_false_eq_true, not_true_eq_false] at c77
              refine skip ?_
              exact ⟨_, rfl, h2, h4, h5, h7, hS, (p1), (p2), (p3), (p4), (fun h9 => absurd h9 c77), trivial⟩
          ·
            clear hS; rintro f w ⟨h2, h4, h5, h7, hS, p1, p2, p3, p4, p5, -⟩
            refine seq ?_
            refine seq ?_
            refine region ?_
            refine sv (fa86_2 h7) ?_
            refine sv (yLdB rfl Tryz.isAgg3 (hS.at _) rfl) ?_
            refine sv (yEql rfl rfl) ?_
            refine nil ?_
            show Code.wp _ _ _ _ _
            refine cond rfl (fun c110 => ?_) (fun c110 => ?_)
            ·
              simp only [Bool.and_eq_true, Bool.or_eq_true, Bool.and_eq_false_iff, Bool.or_eq_false_iff, decide_eq_true_eq, decide_eq_false_iff_not, Bool.not_eq_true, Bool.not_eq_false, Bool.not_not, Bool.not_eq_eq_eq_not, Bool.not_true, Bool.not_false, Bool.false_eq_true, Bool.true_eq_false, ne_eq, Decidable.not_not, not_false_eq_true, not_true_eq_false] at c110
              refine seq ?_
              refine region ?_
              refine sv (yLdBA h4 Tryz.isAgg60 Tryz.sizeOf60 (hS.at _) rfl rfl) ?_
              refine sv (yLdBA h5 Tryz.isAgg26 Tryz.sizeOf26 (hS.at _) rfl rfl) ?_
              refine sv (yMove h2) ?_
              refine sv (yLdBA h7 Tryz.isAgg86 Tryz.sizeOf86 (hS.at _) rfl rfl) ?_
              refine scall Tryz.call73 (.cons rfl (.cons rfl (.cons rfl (.cons rfl .nil)))) (c_rconf (h.ext hS.ext) hc (ha.ext RAct.stays hS.ext) hok hx hall hi (hkv.ext RInt.stays hS.ext) (hbv.ext RBool.stays hS.ext) c110) ?_
              rintro _ w ⟨rfl, hE⟩; replace hS := hS.step hE; clear hE
              refine sv (yAsg rfl) ?_
              refine nil ?_
              show Code.wp _ _ _ _ _
              
              refine wp_ret (thenR ?_)
              exact retV (res1 rfl (eqI (by unfold whyR; rw [if_neg p1, if_neg p2, if_neg p3, if_neg p4, if_neg (by omega), if_pos c110]))) hS.ext
            ·
              simp only [Bool.and_eq_true, Bool.or_eq_true, Bool.and_eq_false_iff, Bool.or_eq_false_iff, decide_eq_true_eq, decide_eq_false_iff_not, Bool.not_eq_true, Bool.not_eq_false, Bool.not_not, Bool.not_eq_eq_eq_not, Bool.not_true, Bool.not_false, Bool.false_eq_true, Bool.true_eq_false, ne_eq, Decidable.not_not, not_false_eq_true, not_true_eq_false] at c110
              refine skip ?_
              show Code.wp _ _ _ _ _
              refine seq ?_
              refine seq ?_
              refine region ?_
              refine sv (fa86_2 h7) ?_
              refine sv (yLdB rfl Tryz.isAgg3 (hS.at _) rfl) ?_
              refine sv (yEql rfl rfl) ?_
              refine nil ?_
              show Code.wp _ _ _ _ _
              refine cond rfl (fun c118 => ?_) (fun c118 => ?_)
              ·
                simp only [Bool.and_eq_true, Bool.or_eq_true, Bool.and_eq_false_iff, Bool.or_eq_false_iff, decide_eq_true_eq, decide_eq_false_iff_not, Bool.not_eq_true, Bool.not_eq_false, Bool.not_not, Bool.not_eq_eq_eq_not, Bool.not_true, Bool.not_false, Bool.false_eq_true, Bool.true_eq_false, ne_eq, Decidable.not_not, not_false_eq_true, not_true_eq_false] at c118
                rw [show manyA c i x = (i : Int) from (if_neg (by omega)).trans (if_pos (.inr c118))] at hxwhat
                obtain ⟨m, hm⟩ := Int.eq_ofNat_of_zero_le hxwhat.1
                have hmi : m < i := by omega
                obtain ⟨bq2, oq2, csq2, haq2, hlenq2, hcsq2, hRq2⟩ := helb m (by omega)
                obtain rfl : csq2 = [.bool (decide (x.what ∈ st.opn))] := by
                  have h9 := opnB_get (opn := st.opn) hmi
                  rw [List.getElem?_eq_getElem (by omega)] at h9
                  rw [hRq2, Option.some.inj h9, hm]
                refine seq ?_
                refine seq ?_
                refine region ?_
                refine sv (fa60_1 h4) ?_
                refine sv (yLdB rfl Tryz.isAgg58 (hS.at _) rfl) ?_
                refine sv (fa86_3 h7) ?_
                refine sv (yLdB rfl Tryz.isAgg3 (hS.at _) rfl) ?_
                refine sv (yIxa rfl haq2 (rfl.trans (congrArg (Value.int .i64) hm)) Tryz.runUnderlying58 Tryz.sizeOf4 (by omega) (by omega)) ?_
                refine sv (yLd rfl Tryz.isAgg4 ((hcsq2.ext hS.ext).one)) ?_
                refine sv (yNot rfl) ?_
                refine nil ?_
                show Code.wp _ _ _ _ _
                refine cond rfl (fun c125 => ?_) (fun c125 => ?_)
                ·
                  simp only [Bool.and_eq_true, Bool.or_eq_true, Bool.and_eq_false_iff, Bool.or_eq_false_iff, decide_eq_true_eq, decide_eq_false_iff_not, Bool.not_eq_true, Bool.not_eq_false, Bool.not_not, Bool.not_eq_eq_eq_not, Bool.not_true, Bool.not_false, Bool.false_eq_true, Bool.true_eq_false, ne_eq, Decidable.not_not, not_false_eq_true, not_true_eq_false] at c125
                  refine seq ?_
                  refine region ?_
                  refine sv (yAsg rfl) ?_
                  refine nil ?_
                  show Code.wp _ _ _ _ _
                  
                  refine wp_ret (thenR (thenR ?_))
                  exact retV (res1 rfl (eqI (by unfold whyR; rw [if_neg p1, if_neg p2, if_neg p3, if_neg p4, if_neg (by omega), if_neg c110, if_pos c118]; unfold canR; exact if_pos (by simpa using c125)))) hS.ext
                ·
                  simp only [Bool.and_eq_true, Bool.or_eq_true, Bool.and_eq_false_iff, Bool.or_eq_false_iff, decide_eq_true_eq, decide_eq_false_iff_not, Bool.not_eq_true, Bool.not_eq_false, Bool.not_not, Bool.not_eq_eq_eq_not, Bool.not_true, Bool.not_false, Bool.false_eq_true, Bool.true_eq_false, ne_eq, Decidable.not_not, not_false_eq_true, not_true_eq_false] at c125
                  have hmm : x.what ∈ st.opn := by simpa using c125
                  have hk2 : m < acts.length := by omega
                  obtain ⟨z, hxq, hdq⟩ := drop_of (l := acts) (k := m) (by omega)
                  obtain ⟨bq, oq, csq, haq, hlenq, hcsq, hRq⟩ := hela (m) (by omega)
                  obtain rfl : z = acts[m] := (List.getElem?_eq_some_iff.1 hxq).2.symm
                  generalize acts[m] = z at hxq hdq hRq
                  obtain ⟨rfl, hiq⟩ := hRq
                  replace hcsq : Cells w0 bq (oq + m * 6) [.int .i64 z.tm, .int .i64 z.who, .int .i64 z.dw, .int .i64 z.what, .int .i64 z.to, .int .i64 z.subj] := hcsq
                  have hZ := hall m z hxq
                  have hz := actAt_hit hm hxq
                  have hZw := hZ.who
                  refine skip ?_
                  show Code.wp _ _ _ _ _
                  refine seq ?_
                  refine region ?_
                  refine sv (yMove h2) ?_
                  refine sv (fa86_3 h7) ?_
                  refine sv (yLdB rfl Tryz.isAgg3 (hS.at _) rfl) ?_
                  refine sv (yIxa rfl haq (rfl.trans (congrArg (Value.int .i64) hm)) Tryz.runUnderlying27 Tryz.sizeOf86 (by omega) (by omega)) ?_
                  refine sv (fa86_1 rfl) ?_
                  refine sv (yLd rfl Tryz.isAgg3 ((hcsq.ext hS.ext).at (j := 1) rfl)) ?_
                  refine sv (yAsg rfl) ?_
                  refine nil ?_
                  show Code.wp _ _ _ _ _
                  refine seq ?_
                  refine region_draw mixed (by kernel_rfl) hS ?_
                  obtain ⟨q, hq⟩ := Int.eq_ofNat_of_zero_le hxwho.1
                  have hq2 : q < c.ops.length := by omega
                  obtain ⟨u, hxo, hdo⟩ := drop_of (l := c.ops) (k := q) (by omega)
                  obtain ⟨bo, oo, cso, hao, hleno, hcso, hRo⟩ := hel (q) (by omega)
                  obtain rfl : u = c.ops[q] := (List.getElem?_eq_some_iff.1 hxo).2.symm
                  generalize c.ops[q] = u at hxo hdo hRo
                  obtain ⟨dvo, rfl, huno, hugo, hsdo, hrdo⟩ := hRo
                  have hu := oprGrade hq hxo
                  obtain ⟨r, hr⟩ := Int.eq_ofNat_of_zero_le hZw.1
                  have hr2 : r < c.ops.length := by omega
                  obtain ⟨v, hxs, hds⟩ := drop_of (l := c.ops) (k := r) (by omega)
                  obtain ⟨bs, os, css, has, hlens, hcss, hRs⟩ := hel (r) (by omega)
                  obtain rfl : v = c.ops[r] := (List.getElem?_eq_some_iff.1 hxs).2.symm
                  generalize c.ops[r] = v at hxs hds hRs
                  obtain ⟨dvs, rfl, huns, hugs, hsds, hrds⟩ := hRs
                  have hv := oprGrade hr hxs
                  refine qv (fun w hS => (yMove rfl)) ?_
                  refine qv (fun w hS => (fa86_1 h7)) ?_
                  refine qv (fun w hS => (yLdB rfl Tryz.isAgg3 (hS.at _) rfl)) ?_
                  refine qv (fun w hS => (yNeq rfl rfl)) ?_
                  refine qv (fun w hS => (yMove rfl)) ?_
                  refine qg rfl rfl rfl (fun g w hS => (fa26_0 h5)) (fun v137 g137 => ?_)
                  refine qg rfl rfl rfl (fun g w hS => (yLdB (g137.1 g) Tryz.isAgg22 (hS.at _) rfl)) (fun v138 g138 => ?_)
                  refine qg rfl rfl rfl (fun g w hS => (fa86_1 h7)) (fun v139 g139 => ?_)
                  refine qg rfl rfl rfl (fun g w hS => (yLdB (g139.1 g) Tryz.isAgg3 (hS.at _) rfl)) (fun v140 g140 => ?_)
                  refine qg rfl rfl rfl (fun g w hS => (yIxa (g138.1 g) hao ((g140.1 g).trans (congrArg (Value.int .i64) hq)) Tryz.runUnderlying22 Tryz.sizeOf97 (by omega) (by omega))) (fun v141 g141 => ?_)
                  refine qg rfl rfl rfl (fun g w hS => (fa97_1 (g141.1 g))) (fun v142 g142 => ?_)
                  refine qg rfl rfl rfl (fun g w hS => (yLd (g142.1 g) Tryz.isAgg3 ((hcso.ext hS.ext).at (j := 1) rfl))) (fun v143 g143 => ?_)
                  refine qg rfl rfl rfl (fun g w hS => (fa26_0 h5)) (fun v144 g144 => ?_)
                  refine qg rfl rfl rfl (fun g w hS => (yLdB (g144.1 g) Tryz.isAgg22 (hS.at _) rfl)) (fun v145 g145 => ?_)
                  refine qg rfl rfl rfl (fun g w hS => (yMove rfl)) (fun v146 g146 => ?_)
                  refine qg rfl rfl rfl (fun g w hS => (yIxa (g145.1 g) has ((g146.1 g).trans (congrArg (Value.int .i64) hr)) Tryz.runUnderlying22 Tryz.sizeOf97 (by omega) (by omega))) (fun v147 g147 => ?_)
                  refine qg rfl rfl rfl (fun g w hS => (fa97_1 (g147.1 g))) (fun v148 g148 => ?_)
                  refine qg rfl rfl rfl (fun g w hS => (yLd (g148.1 g) Tryz.isAgg3 ((hcss.ext hS.ext).at (j := 1) rfl))) (fun v149 g149 => ?_)
                  refine qg rfl rfl rfl (fun g w hS => (yLeq (g143.1 g) (g149.1 g))) (fun v150 g150 => ?_)
                  refine qv (fun w hS => (yAnd rfl (fun hB => (g150.1 hB)) rfl)) ?_
                  clear hS; refine qnil (fun w hS => ?_)
                  show Code.wp _ _ _ _ _
                  refine cond rfl (fun c151 => ?_) (fun c151 => ?_)
                  ·
                    refine seq ?_
                    refine region ?_
                    refine sv (yAsg rfl) ?_
                    refine nil ?_
                    show Code.wp _ _ _ _ _
                    
                    refine wp_ret (thenR ?_)
                    exact retV (res1 rfl (eqI (by unfold whyR; rw [if_neg p1, if_neg p2, if_neg p3, if_neg p4, if_neg (by omega), if_neg c110, if_pos c118]; unfold canR; rw [if_neg (not_not_intro hmm), if_pos (by rw [hz, hu, hv]; simpa using c151)]))) hS.ext
                  ·
                    refine skip ?_
                    show Code.wp _ _ _ _ _
                    refine seq ?_
                    refine region ?_
                    refine sv (yAsg rfl) ?_
                    refine nil ?_
                    show Code.wp _ _ _ _ _
                    
                    refine wp_ret ?_
                    exact retV (res1 rfl (eqI (by unfold whyR; rw [if_neg p1, if_neg p2, if_neg p3, if_neg p4, if_neg (by omega), if_neg c110, if_pos c118]; unfold canR; rw [if_neg (not_not_intro hmm), if_neg (by rw [hz, hu, hv]; intro h9; rw [decide_eq_true h9.1, decide_eq_true h9.2] at c151; cases c151)]))) hS.ext
              ·
                simp only [Bool.and_eq_true, Bool.or_eq_true, Bool.and_eq_false_iff, Bool.or_eq_false_iff, decide_eq_true_eq, decide_eq_false_iff_not, Bool.not_eq_true, Bool.not_eq_false, Bool.not_not, Bool.not_eq_eq_eq_not, Bool.not_true, Bool.not_false, Bool.false_eq_true, Bool.true_eq_false, ne_eq, Decidable.not_not, not_false_eq_true, not_true_eq_false] at c118
                refine skip ?_
                show Code.wp _ _ _ _ _
                refine seq ?_
                refine region ?_
                refine sv (yAsg rfl) ?_
                refine nil ?_
                show Code.wp _ _ _ _ _
                refine wp_ret ?_
                exact retV (res1 rfl (eqI (by unfold whyR; rw [if_neg p1, if_neg p2, if_neg p3, if_neg p4]; by_cases h4 : x.dw = 4; rw [if_pos h4, p5 h4]; rw [if_neg h4, if_neg c110, if_neg c118]))) hS.ext
end Go.Proofs.YtghgnofilbnbaaaGreat
