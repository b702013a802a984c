/- Merged texts, part 4. -/
import Derived.Test.YtgidbailiababaaGreatDoorQ3
set_option linter.all false
/- part Sk18 -/
namespace Go.Proofs.YtgidbailiababaaGreatDoor
open Go Bx Go.Proofs.Tryz
theorem c_rhas {u : Gauge} {cs : List Value} {x t now : Int} {w0 : World} (hg : RGauge w0 cs u) (hok : GaugeOk u) (ht : Bd t 0 200000) : CV Tryz.prog 201 #[.agg cs.toArray, .int .i64 x, .int .i64 t, .int .i64 now] w0 (.bool (hasG t now u x)) := by
 obtain ⟨dv, rv, rfl, -, -, -, hsd, hsr⟩ := id hg
 obtain ⟨ad, cad, rfl, -⟩ := hsd
 obtain ⟨ar, car, rfl, -⟩ := hsr
 refine enter func201 rfl ntmps201 rfl ?_
 have hS := St.start w0
 refine seq <| region ?_
 refine sbox hS rfl rfl ?_; clear hS; intro b4 w hS
 refine sv (yAsg rfl) <| nil <| cwQ <| seq <| region <| sv (yLdBA rfl isAgg68 sizeOf68 (hS.at _) rfl rfl) <| sv (yMove rfl) <| sv (yMove rfl) ?_
 refine scV hS call200 (.cons rfl (.cons rfl (.cons rfl .nil))) (c_rsays (hg.ext hS.ext) hok ht) ?_; clear hS; intro w hS
 refine sv (yMove rfl) <| sv (yExt rfl rfl) <| sv (yExt rfl rfl) ?_
 refine salloc hS zeroValue74 rfl ?_; clear hS; intro b9 w hS
 refine sst hS rfl rfl sizeOf74 rfl rfl rfl rfl ?_; clear hS; intro w hS
 refine sv (yAsg rfl) <| nil <| cwQ <| seq <| region <| sv (yMove rfl) <| sv (yEql rfl rfl) <| sv (yMove rfl) ?_
 refine sg rfl rfl rfl (fun g => (yMove rfl)) (fun v21 g21 => ?_)
 refine sg rfl rfl rfl (fun g => (fa74_0 rfl)) (fun v22 g22 => ?_)
 refine sg rfl rfl rfl (fun g => (yLdB (g22.1 g) isAgg3 (hS.at _) rfl)) (fun v23 g23 => ?_)
 refine sg rfl rfl rfl (fun g => (fa74_1 rfl)) (fun v24 g24 => ?_)
 refine sg rfl rfl rfl (fun g => (yLdB (g24.1 g) isAgg3 (hS.at _) rfl)) (fun v25 g25 => ?_)
 refine sgc hS rfl rfl rfl call163 (fun g => (.cons (g21.1 g) (.cons (g23.1 g) (.cons (g25.1 g) .nil)))) (fun g => c_in) ?_; clear hS; intro v26 w hS g26
 refine sv (yAnd rfl (fun hB => (g26.1 hB)) rfl) <| sv (yAsg rfl) <| nil <| cwQ <| wp_ret ?_
 exact retV (res1 rfl rfl) hS.ext
theorem c_ragreed {l : List Gauge} {v : Value} {x t now : Int} {w0 : World} (hl : Sl w0 5 RGauge v l) (hok : ∀ u ∈ l, GaugeOk u) (ht : Bd t 0 200000) (h8 : l.length ≤ 8) : CV Tryz.prog 179 #[v, .int .i64 x, .int .i64 t, .int .i64 now] w0 (.int .i64 (cntG t now l x : Int)) := by
 obtain ⟨a, cap, rfl, hcap, hmx, hel⟩ := id hl
 refine enter func179 rfl ntmps179 rfl ?_
 have hS := St.start w0
 refine seq <| region <| sv (yAsg rfl) <| nil <| cwQ <| seq <| region <| sv (yAsg rfl) <| nil ?_
 refine cwQ <| seq <| seq <| region <| sv (yAsg rfl) <| nil <| cwQ <| block <| loop (fun f w zz => ∃ (k : Nat), f 0 = .slice a l.length cap ∧ f 1 = .int .i64 x ∧ f 2 = .int .i64 t ∧ f 3 = .int .i64 now ∧ f 9 = .int .i64 (cntG t now (l.take k) x : Int) ∧ f 10 = .int .i64 (k : Int) ∧ StX [] w0 w [] ∧ (k ≤ l.length) ∧ zz = l.length - k) _ ⟨_, rfl, 0, rfl, rfl, rfl, rfl, rfl, rfl, hS, (Nat.zero_le _), rfl⟩ ?_
 clear hS
 rintro f w _ ⟨k, h0, h1, h2, h3, h9, h10, hS, hk, rfl⟩
 refine seq <| seq <| region <| sv (yMove h10) <| sv (yMove h0) <| sv (yLen rfl underlying25) <| sv (yLss rfl rfl) <| nil <| cwQ ?_
 refine cond rfl (fun c14 => ?_) (fun c14 => ?_)
 ·
  simp only [BS, ne_eq] at c14
  obtain ⟨u, hx, hd⟩ := drop_of (l := l) (k := k) (by omega)
  obtain ⟨b, o, cs, ha, hlen, hcs, hR⟩ := hel (k) (by omega)
  obtain rfl : u = l[k] := (List.getElem?_eq_some_iff.1 hx).2.symm
  generalize l[k] = u at hx hd hR
  have hg := hR
  have hcl := cntG_le t now x (l.take k)
  have htl : (l.take k).length ≤ 8 := by simp; omega
  refine skip <| cwQ <| seq <| block <| seq <| region <| sv (yMove h0) <| sv (yMove h10) <| sv (yIxQ rfl ha rfl runUnderlying25 sizeOf68) ?_
  refine sv (yLdA rfl isAgg68 sizeOf68 (hcs.ext hS.ext) hlen) <| sv (yMove h1) <| sv (yMove h2) <| sv (yMove h3) ?_
  refine scV hS call201 (.cons rfl (.cons rfl (.cons rfl (.cons rfl .nil)))) (c_rhas (hg.ext hS.ext) (hok u (List.mem_of_getElem? hx)) ht) ?_; clear hS; intro w hS
  refine nil <| cwQ ?_
  refine cond rfl (fun c24 => ?_) (fun c24 => ?_)
  ·
   refine region <| sv (yMove h9) <| sv (yAdd rfl rfl ⟨by omega, by omega⟩) <| sv (yAsg rfl) <| nil <| cwQ <| region <| sv (yMove h10) <| sv (yAdd rfl rfl ⟨by omega, by omega⟩) ?_
   refine sv (yAsg rfl) <| nil ?_
   exact ⟨_, _, rfl, ⟨k + 1, h0, h1, h2, h3, (by rw [cntG_take hx, if_pos c24]; exact rfl), rfl, hS, (by omega), rfl⟩, by omega⟩
  ·
   refine skip <| cwQ <| region <| sv (yMove h10) <| sv (yAdd rfl rfl ⟨by omega, by omega⟩) <| sv (yAsg rfl) <| nil ?_
   exact ⟨_, _, rfl, ⟨k + 1, h0, h1, h2, h3, (by rw [cntG_take hx, if_neg (by rw [c24]; decide)]; exact h9), rfl, hS, (by omega), rfl⟩, by omega⟩
 ·
  simp only [BS, ne_eq] at c14
  obtain rfl : k = l.length := by omega
  rw [List.take_length] at h9
  refine exit <| cwQ <| seq <| region <| sv (yMove h9) <| sv (yAsg rfl) <| nil <| cwQ <| wp_ret ?_
  exact retV (res1 rfl rfl) hS.ext
set_option maxHeartbeats 1000000 in
theorem c_rends {l : List Gauge} {v : Value} {t now : Int} {w0 : World} (hl : Sl w0 5 RGauge v l) (hok : ∀ u ∈ l, GaugeOk u) (ht : Bd t 0 200000) (h8 : l.length ≤ 8) : CE Tryz.prog 178 #[v, .int .i64 t, .int .i64 now] w0 (fun v w' => St w0 w' [rowI v 3 1 (rends t now l).length ((rends t now l).flatMap Bx.encI)]) := by
 obtain ⟨a, cap, rfl, hcap, hmx, hel⟩ := id hl
 refine enter func178 rfl ntmps178 rfl ?_
 have hS := St.start w0
 refine seq <| region <| sv (yAsg rfl) <| nil <| cwQ <| seq <| region <| sv (yAsg rfl) <| nil ?_
 refine cwQ <| seq <| seq <| region <| sv (yAsg rfl) <| nil <| cwQ <| block <| loop (fun f w zz => ∃ (k : Nat) (ov : Value), f 0 = .slice a l.length cap ∧ f 1 = .int .i64 t ∧ f 2 = .int .i64 now ∧ f 7 = ov ∧ f 8 = .int .i64 (k : Int) ∧ StX [] w0 w [rowI ov 3 1 (rends t now (l.take k)).length ((rends t now (l.take k)).flatMap Bx.encI)] ∧ (k ≤ l.length) ∧ zz = l.length - k) _ ⟨_, rfl, 0, _, rfl, rfl, rfl, rfl, rfl, (hS.nilrow 3 1), (Nat.zero_le _), rfl⟩ ?_
 clear hS
 rintro f w _ ⟨k, ov, h0, h1, h2, h7, h8, hS, hk, rfl⟩
 refine seq <| seq <| region <| sv (yMove h8) <| sv (yMove h0) <| sv (yLen rfl underlying25) <| sv (yLss rfl rfl) <| nil <| cwQ ?_
 refine cond rfl (fun c14 => ?_) (fun c14 => ?_)
 ·
  simp only [BS, ne_eq] at c14
  obtain ⟨u, hx, hd⟩ := drop_of (l := l) (k := k) (by omega)
  obtain ⟨b, o, cs, ha, hlen, hcs, hR⟩ := hel (k) (by omega)
  obtain rfl : u = l[k] := (List.getElem?_eq_some_iff.1 hx).2.symm
  generalize l[k] = u at hx hd hR
  have hg := hR
  have hrl := rends_len t now (l.take k)
  have htl : (l.take k).length ≤ 8 := by simp; omega
  refine skip <| cwQ <| seq <| block <| seq <| region <| sv (yMove h0) <| sv (yMove h8) <| sv (yIxQ rfl ha rfl runUnderlying25 sizeOf68) ?_
  refine sv (yLdA rfl isAgg68 sizeOf68 (hcs.ext hS.ext) hlen) <| sv (yMove h1) <| sv (yMove h2) ?_
  refine scV hS call200 (.cons rfl (.cons rfl (.cons rfl .nil))) (c_rsays (hg.ext hS.ext) (hok u (List.mem_of_getElem? hx)) ht) ?_; clear hS; intro w hS
  refine sv (yMove rfl) <| sv (yExt rfl rfl) <| sv (yExt rfl rfl) ?_
  refine salloc hS zeroValue74 rfl ?_; clear hS; intro b9 w hS
  refine sst hS rfl rfl sizeOf74 rfl rfl rfl rfl ?_; clear hS; intro w hS
  refine sv (yAsg rfl) <| nil <| cwQ <| seq <| region <| sv (yMove rfl) <| sv (yEql rfl rfl) <| nil <| cwQ ?_
  refine cond rfl (fun c28 => ?_) (fun c28 => ?_)
  ·
   simp only [BS, ne_eq] at c28
   refine region <| sv (yMove h7) <| sv (fa74_0 rfl) <| sv (yLdB rfl isAgg3 (hS.at _) rfl) <| sv (fa74_1 rfl) <| sv (yLdB rfl isAgg3 (hS.at _) rfl) ?_
   refine sbslice hS underlying39 sizeOf3 rfl zeroValue3 rfl (.cons rfl rfl (.cons rfl rfl .nil)) rfl ?_; clear hS; intro b34 w hS
   refine sapp (bytes := 8) (size := 1) (v := ov) (m := 2) hS rfl rfl underlying39 ti3 rfl rfl rfl rfl (by decide) (blk_cells (hS.at _)) rfl rfl (by omega) (by omega) ?_; clear hS; intro v35 w hS
   refine sv (yAsg rfl) <| nil <| cwQ <| region <| sv (yMove h8) <| sv (yAdd rfl rfl ⟨by omega, by omega⟩) <| sv (yAsg rfl) <| nil ?_
   exact ⟨_, _, rfl, ⟨k + 1, _, h0, h1, h2, rfl, rfl, (by rw [rends_take hx, if_pos c28, List.flatMap_append, List.length_append]; exact hS.sub (.cons _ (.cons _ lrQ))), (by omega), rfl⟩, by omega⟩
  ·
   simp only [BS, ne_eq] at c28
   refine skip <| cwQ <| region <| sv (yMove h8) <| sv (yAdd rfl rfl ⟨by omega, by omega⟩) <| sv (yAsg rfl) <| nil ?_
   exact ⟨_, _, rfl, ⟨k + 1, _, h0, h1, h2, h7, rfl, (by rw [rends_take hx, if_neg c28, List.append_nil]; exact hS.sub (.cons _ lrQ)), (by omega), rfl⟩, by omega⟩
 ·
  simp only [BS, ne_eq] at c14
  obtain rfl : k = l.length := by omega
  rw [List.take_length] at hS
  refine exit <| cwQ <| seq <| region <| sv (yMove h7) <| sv (yAsg rfl) <| nil <| cwQ <| wp_ret ?_
  refine retQ (res1 rfl rfl) ?_
  exact hS
end Go.Proofs.YtgidbailiababaaGreatDoor

/- part Sk19 -/
namespace Go.Proofs.YtgidbailiababaaGreatDoor
open Go Bx Go.Proofs.Tryz
set_option maxHeartbeats 1000000 in
theorem c_rgauges {l : List Gauge} {v : Value} {t now : Int} {w0 : World} (hl : Sl w0 5 RGauge v l) : CV Tryz.prog 177 #[v, .int .i64 t, .int .i64 now] w0 (.int .i64 (gaugesE l t now)) := by
 obtain ⟨a, cap, rfl, hcap, hmx, hel⟩ := id hl
 refine enter func177 rfl ntmps177 rfl ?_
 have hS := St.start w0
 refine seq <| region <| sv (yAsg rfl) <| nil <| cwQ <| seq <| seq <| region <| sv (yMove rfl) ?_
 refine sv (yLen rfl underlying25) <| sv (yGtr rfl rfl) <| nil <| cwQ ?_
 refine cond rfl (fun c15 => ?_) (fun c15 => ?_)
 ·
  simp only [BS, ne_eq] at c15
  refine seq <| region <| sv (yAsg rfl) <| nil <| cwQ ?_
  have hfin : gaugesE l t now = 3 := by unfold gaugesE; rw [if_pos c15]
  refine wp_ret (thenR ?_)
  exact retV (res1 rfl (eqI hfin)) hS.ext
 ·
  simp only [BS, ne_eq] at c15
  refine skip <| cwQ <| seq <| seq <| region <| sv (yAsg rfl) <| nil <| cwQ <| block ?_
  refine loop (fun f w zz => ∃ (k : Nat), f 0 = .slice a l.length cap ∧ f 1 = .int .i64 t ∧ f 2 = .int .i64 now ∧ f 7 = .int .i64 (k : Int) ∧ StX [] w0 w [] ∧ (k ≤ l.length) ∧ (gErrs l = gErrs (l.drop k)) ∧ zz = l.length - k) _ ⟨_, rfl, 0, rfl, rfl, rfl, rfl, hS, (Nat.zero_le _), (rfl), rfl⟩ ?_
  clear hS
  rintro f w _ ⟨k, h0, h1, h2, h7, hS, hk, hI, rfl⟩
  refine seq <| seq <| region <| sv (yMove h7) <| sv (yMove h0) <| sv (yLen rfl underlying25) <| sv (yLss rfl rfl) <| nil <| cwQ ?_
  refine cond rfl (fun c19 => ?_) (fun c19 => ?_)
  ·
   simp only [BS, ne_eq] at c19
   obtain ⟨u, hx, hd⟩ := drop_of (l := l) (k := k) (by omega)
   obtain ⟨b, o, cs, ha, hlen, hcs, hR⟩ := hel (k) (by omega)
   obtain rfl : u = l[k] := (List.getElem?_eq_some_iff.1 hx).2.symm
   generalize l[k] = u at hx hd hR
   have hg := hR
   refine skip <| cwQ <| seq <| block <| seq <| region <| sv (yMove h0) <| sv (yMove h7) <| sv (yIxQ rfl ha rfl runUnderlying25 sizeOf68) ?_
   refine sv (yLdA rfl isAgg68 sizeOf68 (hcs.ext hS.ext) hlen) ?_
   refine scV hS call116 (.cons rfl .nil) (c_rCheckGauge (hg.ext hS.ext)) ?_; clear hS; intro w hS
   refine sv (yMove rfl) <| sv (yExt rfl rfl) <| sv (yExt rfl rfl) <| sv (yExt rfl rfl) <| sv (yAsg rfl) <| sv (yAsg rfl) <| sv (yAsg rfl) <| nil <| cwQ ?_
   refine seq <| region <| sv (yMove rfl) <| sv (yNeq rfl rfl) <| nil <| cwQ ?_
   refine cond rfl (fun c32 => ?_) (fun c32 => ?_)
   ·
    simp only [BS, ne_eq] at c32
    refine seq <| region <| sv (yMove rfl) <| sv (yAsg rfl) <| nil <| cwQ ?_
    have hfin : gaugesE l t now = (checkG u).2.2 := by unfold gaugesE; rw [if_neg c15, if_pos (by rw [gErrs_bad hd hI c32]; exact c32), gErrs_bad hd hI c32]
    refine wp_ret (blockR (thenR (thenR (blockR (thenR ?_)))))
    exact retV (res1 rfl (eqI hfin)) hS.ext
   ·
    simp only [BS, ne_eq] at c32
    refine skip <| cwQ <| region <| sv (yMove h7) <| sv (yAdd rfl rfl ⟨by omega, by omega⟩) <| sv (yAsg rfl) <| nil ?_
    exact ⟨_, _, rfl, ⟨k + 1, h0, h1, h2, rfl, hS, (by omega), (gErrs_take hd hI c32), rfl⟩, by omega⟩
  ·
   simp only [BS, ne_eq] at c19
   obtain rfl : k = l.length := by omega
   rw [List.drop_length] at hI
   have hI0 : gErrs l = 0 := hI
   refine exit <| cwQ <| seq <| seq <| region <| sv (yAsg rfl) <| nil <| cwQ <| block ?_
   refine loop (fun f w zz => ∃ (k : Nat), f 0 = .slice a l.length cap ∧ f 1 = .int .i64 t ∧ f 2 = .int .i64 now ∧ f 11 = .int .i64 (k : Int) ∧ StX [] w0 w [] ∧ (k ≤ l.length) ∧ ((namesG (l.take k)).Nodup) ∧ zz = l.length - k) _ ⟨_, rfl, 0, h0, h1, h2, rfl, hS, (Nat.zero_le _), (List.nodup_nil), rfl⟩ ?_
   clear hS
   rintro f w _ ⟨k, h0, h1, h2, h11, hS, hk, hN, rfl⟩
   refine seq <| seq <| region <| sv (yMove h11) <| sv (yMove h0) <| sv (yLen rfl underlying25) <| sv (yLss rfl rfl) <| nil <| cwQ ?_
   refine cond rfl (fun c37 => ?_) (fun c37 => ?_)
   ·
    simp only [BS, ne_eq] at c37
    obtain ⟨u, hx, hd⟩ := drop_of (l := l) (k := k) (by omega)
    obtain ⟨b, o, cs, ha, hlen, hcs, hR⟩ := hel (k) (by omega)
    obtain rfl : u = l[k] := (List.getElem?_eq_some_iff.1 hx).2.symm
    generalize l[k] = u at hx hd hR
    obtain ⟨dv, rv, hce, -⟩ := id hR
    subst hce
    refine skip <| cwQ <| seq <| block <| seq <| region <| sv (yAsg rfl) <| nil <| cwQ ?_
    refine block <| loop (fun f w zz => ∃ (i : Nat), f 0 = .slice a l.length cap ∧ f 1 = .int .i64 t ∧ f 2 = .int .i64 now ∧ f 11 = .int .i64 (k : Int) ∧ f 12 = .int .i64 (i : Int) ∧ StX [] w0 w [] ∧ (i ≤ k) ∧ (∀ j y, j < i → l[j]? = some y → u.name ≠ y.name) ∧ zz = k - i) _ ⟨_, rfl, 0, h0, h1, h2, h11, rfl, hS, (Nat.zero_le _), (fun j y hj => absurd hj (Nat.not_lt_zero j)), rfl⟩ ?_
    clear hS
    rintro f w _ ⟨i, h0, h1, h2, h11, h12, hS, hi, hM, rfl⟩
    refine seq <| seq <| region <| sv (yMove h12) <| sv (yMove h11) <| sv (yLss rfl rfl) <| nil <| cwQ ?_
    refine cond rfl (fun c42 => ?_) (fun c42 => ?_)
    ·
     simp only [BS, ne_eq] at c42
     obtain ⟨y, hxq, hdq⟩ := drop_of (l := l) (k := i) (by omega)
     obtain ⟨bq, oq, csq, haq, hlenq, hcsq, hRq⟩ := hel (i) (by omega)
     obtain rfl : y = l[i] := (List.getElem?_eq_some_iff.1 hxq).2.symm
     generalize l[i] = y at hxq hdq hRq
     obtain ⟨dvq, rvq, hceq, -⟩ := id hRq
     subst hceq
     refine skip <| cwQ <| seq <| block <| seq <| region_draw mixed (by kernel_rfl) hS <| qv (fun w hS => (yMove h0)) <| qv (fun w hS => (yMove h11)) <| qv (fun w hS => (yIxQ rfl ha rfl runUnderlying25 sizeOf68)) ?_
     refine qv (fun w hS => (fa68_0 rfl)) <| qv (fun w hS => (yLd rfl isAgg9 ((hcs.ext hS.ext).at (j := 0) rfl))) <| qv (fun w hS => (yMove h0)) <| qv (fun w hS => (yMove h12)) <| qv (fun w hS => (yIxQ rfl haq rfl runUnderlying25 sizeOf68)) <| qv (fun w hS => (fa68_0 rfl)) <| qv (fun w hS => (yLd rfl isAgg9 ((hcsq.ext hS.ext).at (j := 0) rfl))) <| qv (fun w hS => (ySEq rfl rfl)) ?_
     clear hS; refine qnil (fun w hS => ?_)
     refine cwQ ?_
     refine cond rfl (fun c55 => ?_) (fun c55 => ?_)
     ·
      simp only [BS, ne_eq] at c55
      refine seq <| region <| sv (yAsg rfl) <| nil <| cwQ ?_
      have hfin : gaugesE l t now = 5 := by unfold gaugesE; rw [if_neg c15, if_neg (fun h => h hI0), if_pos (not_nodup hxq hx (by omega) c55)]
      refine wp_ret (blockR (thenR (thenR (blockR (blockR (thenR (thenR (blockR (thenR ?_)))))))))
      exact retV (res1 rfl (eqI hfin)) hS.ext
     ·
      simp only [BS, ne_eq] at c55
      refine skip <| cwQ <| region <| sv (yMove h12) <| sv (yAdd rfl rfl ⟨by omega, by omega⟩) <| sv (yAsg rfl) <| nil ?_
      exact ⟨_, _, rfl, ⟨i + 1, h0, h1, h2, h11, rfl, hS, (by omega), (fun j y hj hy => by
       rcases Nat.lt_succ_iff_lt_or_eq.1 hj with h | rfl
       ·
        exact hM j y h hy
       ·
        rw [hxq] at hy; cases hy; exact c55), rfl⟩, by omega⟩
    ·
     simp only [BS, ne_eq] at c42
     obtain rfl : k = i := by omega
     refine exit <| cwQ <| region <| sv (yMove h11) <| sv (yAdd rfl rfl ⟨by omega, by omega⟩) <| sv (yAsg rfl) <| nil ?_
     exact ⟨_, _, rfl, ⟨k + 1, h0, h1, h2, rfl, hS, (by omega), (nodup_take hx hN hM), rfl⟩, by omega⟩
   ·
    simp only [BS, ne_eq] at c37
    obtain rfl : k = l.length := by omega
    rw [List.take_length] at hN
    refine exit <| cwQ <| seq <| seq <| region <| sv (yMove h1) ?_
    refine scV hS call165 (.cons rfl .nil) c_tick ?_; clear hS; intro w hS
    refine sv (yNot rfl) <| sv (yMove rfl) ?_
    refine sg rfl rfl rfl (fun g => (yMove h2)) (fun v60 g60 => ?_)
    refine sgc hS rfl rfl rfl call165 (fun g => (.cons (g60.1 g) .nil)) (fun g => c_tick) ?_; clear hS; intro v61 w hS g61
    refine sg rfl rfl rfl (fun g => (yNot (g61.1 g))) (fun v62 g62 => ?_)
    refine sv (yOr rfl rfl (fun hB => (g62.1 hB))) <| nil <| cwQ ?_
    refine cond rfl (fun c63 => ?_) (fun c63 => ?_)
    ·
     have htk : ticksE [t, now] = 7 := by rw [ticks2, outB_inB, outB_inB, if_pos c63]
     refine seq <| region <| sv (yAsg rfl) <| nil <| cwQ ?_
     have hfin : gaugesE l t now = 7 := by unfold gaugesE; rw [if_neg c15, if_neg (fun h => h hI0), if_neg (fun h => h hN), htk]
     refine wp_ret (thenR ?_)
     exact retV (res1 rfl (eqI hfin)) hS.ext
    ·
     have htk : ticksE [t, now] = 0 := by rw [ticks2, outB_inB, outB_inB, if_neg (by rw [c63]; decide)]
     refine skip <| cwQ <| seq <| region <| sv (yAsg rfl) <| nil <| cwQ ?_
     have hfin : gaugesE l t now = 0 := by unfold gaugesE; rw [if_neg c15, if_neg (fun h => h hI0), if_neg (fun h => h hN), htk]
     refine wp_ret ?_
     exact retV (res1 rfl (eqI hfin)) hS.ext
end Go.Proofs.YtgidbailiababaaGreatDoor

/- part Sk20 -/
namespace Go.Proofs.YtgidbailiababaaGreatDoor
open Go Bx Go.Proofs.Tryz
set_option maxHeartbeats 2000000 in
theorem c_rSound {l : List Gauge} {v : Value} {wrong t now : Int} {w0 : World} (hl : Sl w0 5 RGauge v l) : CV Tryz.prog 142 #[v, .int .i64 wrong, .int .i64 t, .int .i64 now] w0 (.tuple #[.agg (spanC (rSoundF l wrong t now).1).toArray, .int .i64 (rSoundF l wrong t now).2]) := by
 obtain ⟨a, cap, rfl, hcap, hmx, hel⟩ := id hl
 refine enter func142 rfl ntmps142 rfl ?_
 have hS := St.start w0
 refine seq <| region ?_
 refine salloc hS zeroValue74 rfl ?_; clear hS; intro b8 w hS
 refine sv (yAsg rfl) <| nil <| cwQ <| seq <| region <| sv (yMove rfl) <| sv (yMove rfl) <| sv (yMove rfl) ?_
 refine scV hS call177 (.cons rfl (.cons rfl (.cons rfl .nil))) (c_rgauges (hl.ext RGauge.stays hS.ext)) ?_; clear hS; intro w hS
 refine sv (yAsg rfl) <| nil <| cwQ ?_
 refine seqJ (n := 86) (fun f w => f 0 = .slice a l.length cap ∧ f 1 = .int .i64 wrong ∧ f 2 = .int .i64 t ∧ f 3 = .int .i64 now ∧ f 8 = ptQ b8 ∧ f 10 = .int .i64 (soundE l wrong t now) ∧ StX [] w0 w [blk b8 [.int .i64 0, .int .i64 0] 74] ∧ True) ?_ ?_
 ·
  refine seq <| region <| sv (yMove rfl) <| sv (yEql rfl rfl) <| sv (yMove rfl) ?_
  refine sg rfl rfl rfl (fun g => (yMove rfl)) (fun v22 g22 => ?_)
  refine sg rfl rfl rfl (fun g => (yMove rfl)) (fun v23 g23 => ?_)
  refine sg rfl rfl rfl (fun g => (yLen (g23.1 g) underlying25)) (fun v24 g24 => ?_)
  refine sg rfl rfl rfl (fun g => (ySub (g24.1 g) rfl ⟨by omega, by omega⟩)) (fun v25 g25 => ?_)
  refine sgc hS rfl rfl rfl call163 (fun g => (.cons (g22.1 g) (.cons rfl (.cons (g25.1 g) .nil)))) (fun g => c_in) ?_; clear hS; intro v26 w hS g26
  refine sg rfl rfl rfl (fun g => (yNot (g26.1 g))) (fun v27 g27 => ?_)
  refine sv (yAnd rfl (fun hB => (g27.1 hB)) rfl) <| nil <| cwQ ?_
  refine cond rfl (fun c28 => ?_) (fun c28 => ?_)
  ·
   refine region <| sv (yAsg rfl) <| nil ?_
   exact ⟨_, rfl, rfl, rfl, rfl, rfl, rfl, (by rw [soundE_7 c28]; exact rfl), hS, trivial⟩
  ·
   refine skip ?_
   exact ⟨_, rfl, rfl, rfl, rfl, rfl, rfl, (by rw [soundE_g2 c28]; exact rfl), hS, trivial⟩
 ·
  clear hS; rintro f w ⟨h0, h1, h2, h3, h8, h10, hS, -⟩
  refine seq <| seq <| region <| sv (yMove h10) <| sv (yNeq rfl rfl) <| nil <| cwQ ?_
  refine cond rfl (fun c30 => ?_) (fun c30 => ?_)
  ·
   simp only [BS, ne_eq] at c30
   have hfin := rSoundF_e c30
   refine seq <| region <| sv (yBuild zeroValue74 rfl pl74 .nil rfl) <| sv (yMove h10) ?_
   refine sst hS h8 rfl sizeOf74 rfl rfl rfl rfl ?_; clear hS; intro w hS
   refine sv (yAsg rfl) <| nil <| cwQ ?_
   refine wp_ret (thenR ?_)
   exact retV (resV2 rfl (rc h8 isAgg74 sizeOf74 (hS.at _) (by rw [hfin]; rfl) rfl) (rt (eqI (by rw [hfin])))) hS.ext
  ·
   simp only [BS, ne_eq] at c30
   obtain ⟨hg0, hwb⟩ := soundE_zero (fun h => h c30)
   obtain ⟨hln8, hok, hnd, htk⟩ := gaugesE_zero hg0
   obtain ⟨htb, hnb⟩ := ticks2b htk
   refine skip <| cwQ <| seq <| region ?_
   refine salloc hS zeroValue74 rfl ?_; clear hS; intro b11 w hS
   refine nil <| cwQ <| seq <| region <| sv (yAsg rfl) <| nil <| cwQ <| seq <| region ?_
   refine sv (yMove h0) <| sv (yMove h2) <| sv (yMove h3) ?_
   refine scall call178 (.cons rfl (.cons rfl (.cons rfl .nil))) (c_rends (hl.ext RGauge.stays hS.ext) hok htb hln8) ?_
   rintro ov w hM; replace hS := hS.call1 hM; clear hM; obtain ⟨ae, ce, rfl⟩ := row_shape (hS.row ov)
   have hEl := rends_len t now l
   have hEb := rends_bd (t := t) (now := now) (l := l)
   generalize hE : rends t now l = E at hS hEl hEb ⊢
   refine sv (yAsg rfl) <| nil <| cwQ <| seq <| seq <| region <| sv (yAsg rfl) <| nil <| cwQ ?_
   refine block <| loop (fun f w zz => ∃ (k : Nat) (o : Option Span), f 0 = .slice a l.length cap ∧ f 1 = .int .i64 wrong ∧ f 2 = .int .i64 t ∧ f 3 = .int .i64 now ∧ f 8 = ptQ b8 ∧ f 11 = ptQ b11 ∧ f 12 = .bool o.isSome ∧ f 13 = .slice ae E.length ce ∧ f 14 = .int .i64 (k : Int) ∧ StX [] w0 w [blk b11 (spanC (o.getD ⟨0, 0⟩)) 74, rowI (.slice ae E.length ce) 3 1 E.length (E.flatMap Bx.encI), blk b8 [.int .i64 0, .int .i64 0] 74] ∧ (k ≤ E.length) ∧ (foldS (okN t now l ((l.length : Int) - wrong)) (E.take k) = o) ∧ zz = E.length - k) _ ⟨_, rfl, 0, none, h0, h1, h2, h3, h8, rfl, rfl, rfl, rfl, (hS.perm (List.Perm.swap _ _ _)), (Nat.zero_le _), (rfl), rfl⟩ ?_
   clear hS
   rintro f w _ ⟨k, o, h0, h1, h2, h3, h8, h11, h12, h13, h14, hS, hk, ho, rfl⟩
   refine seq <| seq <| region <| sv (yMove h14) <| sv (yMove h13) <| sv (yLen rfl underlying39) <| sv (yLss rfl rfl) <| nil <| cwQ ?_
   refine cond rfl (fun c40 => ?_) (fun c40 => ?_)
   ·
    simp only [BS, ne_eq] at c40
    obtain ⟨x, hx, hd⟩ := drop_of (l := E) (k := k) (by omega)
    obtain ⟨ge, rfl, -⟩ := row_get (hS.row (.slice ae E.length ce)) (by omega)
    have hxb := hEb x (List.mem_of_getElem? hx)
    refine skip <| cwQ <| seq <| block <| seq <| seq <| region <| sv (yMove h0) <| sv (yMove h13) ?_
    refine sv (yMove h14) <| sv (yIx0 rfl rfl runUnderlying39 sizeOf3 (by omega)) <| sv (yLd rfl isAgg3 ((flat_cells0 encI_len (row_at (hS.row (.slice (some ⟨ge, 0, none⟩) E.length ce)) rfl (by omega)) hx).one)) <| sv (yMove h2) <| sv (yMove h3) ?_
    refine scV hS call179 (.cons rfl (.cons rfl (.cons rfl (.cons rfl .nil)))) (c_ragreed (hl.ext RGauge.stays hS.ext) hok htb hln8) ?_; clear hS; intro w hS
    refine sv (yMove h0) <| sv (yLen rfl underlying25) <| sv (yMove h1) <| sv (ySub rfl rfl ⟨by omega, by omega⟩) <| sv (yLss rfl rfl) <| nil <| cwQ ?_
    refine cond rfl (fun c55 => ?_) (fun c55 => ?_)
    ·
     simp only [BS, ne_eq] at c55
     refine exit <| cwQ <| region <| sv (yMove h14) <| sv (yAdd rfl rfl ⟨by omega, by omega⟩) <| sv (yAsg rfl) <| nil ?_
     exact ⟨_, _, rfl, ⟨k + 1, o, h0, h1, h2, h3, h8, h11, h12, h13, rfl, hS, (by omega), (by rw [foldS_take hx, ho, stepS, if_neg (by simp [okN, c55])]), rfl⟩, by omega⟩
    ·
     simp only [BS, ne_eq] at c55
     refine skip <| cwQ <| seq <| seq <| region <| sv (yMove h12) <| sv (yNot rfl) <| nil <| cwQ ?_
     refine cond rfl (fun c57 => ?_) (fun c57 => ?_)
     ·
      simp only [BS, ne_eq] at c57
      obtain rfl : o = none := by cases o; rfl; simp at c57
      refine region_tail mixed 9 (by kernel_rfl) hS <| qv (fun w hS => (yMove h13)) <| qv (fun w hS => (yMove h14)) <| qv (fun w hS => (yIx0 rfl rfl runUnderlying39 sizeOf3 (by omega))) <| qv (fun w hS => (yLd rfl isAgg3 ((flat_cells0 encI_len (row_at (hS.row (.slice (some ⟨ge, 0, none⟩) E.length ce)) rfl (by omega)) hx).one))) <| qv (fun w hS => (yMove h13)) <| qv (fun w hS => (yMove h14)) <| qv (fun w hS => (yIx0 rfl rfl runUnderlying39 sizeOf3 (by omega))) <| qv (fun w hS => (yLd rfl isAgg3 ((flat_cells0 encI_len (row_at (hS.row (.slice (some ⟨ge, 0, none⟩) E.length ce)) rfl (by omega)) hx).one))) ?_
      refine qv (fun w hS => (yBuild zeroValue74 rfl pl74 (.cons rfl rfl (.cons rfl rfl .nil)) rfl)) ?_
      clear hS; refine qtl (fun w hS => ?_)
      refine sst hS h11 rfl sizeOf74 rfl rfl rfl rfl ?_; clear hS; intro w hS
      refine nil <| cwQ <| seq <| region_tail mixed 15 (by kernel_rfl) hS <| qv (fun w hS => (fa74_0 h11)) <| qv (fun w hS => (yLdB rfl isAgg3 (hS.at _) rfl)) <| qv (fun w hS => (yMove h13)) <| qv (fun w hS => (yMove h14)) <| qv (fun w hS => (yIx0 rfl rfl runUnderlying39 sizeOf3 (by omega))) ?_
      refine qv (fun w hS => (yLd rfl isAgg3 ((flat_cells0 encI_len (row_at (hS.row (.slice (some ⟨ge, 0, none⟩) E.length ce)) rfl (by omega)) hx).one))) <| qv (fun w hS => (yMin rfl rfl)) <| qv (fun w hS => (fa74_1 h11)) <| qv (fun w hS => (yLdB rfl isAgg3 (hS.at _) rfl)) <| qv (fun w hS => (yMove h13)) <| qv (fun w hS => (yMove h14)) <| qv (fun w hS => (yIx0 rfl rfl runUnderlying39 sizeOf3 (by omega))) <| qv (fun w hS => (yLd rfl isAgg3 ((flat_cells0 encI_len (row_at (hS.row (.slice (some ⟨ge, 0, none⟩) E.length ce)) rfl (by omega)) hx).one))) <| qv (fun w hS => (yMax rfl rfl)) ?_
      refine qv (fun w hS => (yBuild zeroValue74 rfl pl74 (.cons rfl rfl (.cons rfl rfl .nil)) rfl)) ?_
      clear hS; refine qtl (fun w hS => ?_)
      refine sst hS h11 rfl sizeOf74 rfl rfl rfl rfl ?_; clear hS; intro w hS
      refine nil <| cwQ <| region <| sv (yAsg rfl) <| nil <| cwQ <| region <| sv (yMove h14) <| sv (yAdd rfl rfl ⟨by omega, by omega⟩) ?_
      refine sv (yAsg rfl) <| nil ?_
      exact ⟨_, _, rfl, ⟨k + 1, some ⟨min ((⟨x, x⟩ : Span)).lo x, max ((⟨x, x⟩ : Span)).hi x⟩, h0, h1, h2, h3, h8, h11, rfl, h13, rfl, hS, (by omega), (by rw [foldS_take hx, ho, stepS, if_pos (by simp [okN]; omega)]; rfl), rfl⟩, by omega⟩
     ·
      simp only [BS, ne_eq] at c57
      obtain ⟨s, rfl⟩ : ∃ s, o = some s := by cases o; simp at c57; exact ⟨_, rfl⟩
      refine skip <| cwQ <| seq <| region_tail mixed 15 (by kernel_rfl) hS <| qv (fun w hS => (fa74_0 h11)) <| qv (fun w hS => (yLdB rfl isAgg3 (hS.at _) rfl)) <| qv (fun w hS => (yMove h13)) <| qv (fun w hS => (yMove h14)) <| qv (fun w hS => (yIx0 rfl rfl runUnderlying39 sizeOf3 (by omega))) ?_
      refine qv (fun w hS => (yLd rfl isAgg3 ((flat_cells0 encI_len (row_at (hS.row (.slice (some ⟨ge, 0, none⟩) E.length ce)) rfl (by omega)) hx).one))) <| qv (fun w hS => (yMin rfl rfl)) <| qv (fun w hS => (fa74_1 h11)) <| qv (fun w hS => (yLdB rfl isAgg3 (hS.at _) rfl)) <| qv (fun w hS => (yMove h13)) <| qv (fun w hS => (yMove h14)) <| qv (fun w hS => (yIx0 rfl rfl runUnderlying39 sizeOf3 (by omega))) <| qv (fun w hS => (yLd rfl isAgg3 ((flat_cells0 encI_len (row_at (hS.row (.slice (some ⟨ge, 0, none⟩) E.length ce)) rfl (by omega)) hx).one))) <| qv (fun w hS => (yMax rfl rfl)) ?_
      refine qv (fun w hS => (yBuild zeroValue74 rfl pl74 (.cons rfl rfl (.cons rfl rfl .nil)) rfl)) ?_
      clear hS; refine qtl (fun w hS => ?_)
      refine sst hS h11 rfl sizeOf74 rfl rfl rfl rfl ?_; clear hS; intro w hS
      refine nil <| cwQ <| region <| sv (yAsg rfl) <| nil <| cwQ <| region <| sv (yMove h14) <| sv (yAdd rfl rfl ⟨by omega, by omega⟩) ?_
      refine sv (yAsg rfl) <| nil ?_
      exact ⟨_, _, rfl, ⟨k + 1, some ⟨min (s).lo x, max (s).hi x⟩, h0, h1, h2, h3, h8, h11, rfl, h13, rfl, hS, (by omega), (by rw [foldS_take hx, ho, stepS, if_pos (by simp [okN]; omega)]; rfl), rfl⟩, by omega⟩
   ·
    simp only [BS, ne_eq] at c40
    obtain rfl : k = E.length := by omega
    rw [List.take_length] at ho
    refine exit <| cwQ <| seq <| seq <| region <| sv (yMove h12) <| sv (yNot rfl) <| nil <| cwQ ?_
    refine cond rfl (fun c83 => ?_) (fun c83 => ?_)
    ·
     simp only [BS, ne_eq] at c83
     obtain rfl : o = none := by cases o; rfl; simp at c83
     have hfin : rSoundF l wrong t now = (⟨0, 0⟩, 9) := by rw [rSoundF_ok (fun h => h c30), hE, ho]; rfl
     refine seq <| region <| sv (yBuild zeroValue74 rfl pl74 .nil rfl) ?_
     refine sst hS h8 rfl sizeOf74 rfl rfl rfl rfl ?_; clear hS; intro w hS
     refine sv (yAsg rfl) <| nil <| cwQ ?_
     refine wp_ret (thenR ?_)
     exact retV (resV2 rfl (rc h8 isAgg74 sizeOf74 (hS.at _) (by rw [hfin]; rfl) rfl) (rt (eqI (by rw [hfin])))) hS.ext
    ·
     simp only [BS, ne_eq] at c83
     obtain ⟨s, rfl⟩ : ∃ s, o = some s := by cases o; simp at c83; exact ⟨_, rfl⟩
     have hfin : rSoundF l wrong t now = (s, 0) := by rw [rSoundF_ok (fun h => h c30), hE, ho]; rfl
     refine skip <| cwQ <| seq <| region <| sv (yLdBA h11 isAgg74 sizeOf74 (hS.at _) rfl rfl) ?_
     refine sst hS h8 rfl sizeOf74 rfl rfl rfl rfl ?_; clear hS; intro w hS
     refine sv (yAsg rfl) <| nil <| cwQ <| wp_ret ?_
     exact retV (resV2 rfl (rc h8 isAgg74 sizeOf74 (hS.at _) (by rw [hfin]; rfl) rfl) (rt (eqI (by rw [hfin])))) hS.ext
end Go.Proofs.YtgidbailiababaaGreatDoor

/- part Sw1 -/
namespace Go.Proofs.YtgidbailiababaaGreatDoor
open Go Bx Go.Proofs.Tryz
theorem c_outS {a lo hi : Int} {w0 : World} : CV Tryz.prog 53 #[.int .i64 a, .int .i64 lo, .int .i64 hi] w0 (.bool (outB a lo hi)) := by
 refine enter func53 rfl ntmps53 rfl ?_
 have hS := St.start w0
 refine seq <| region <| sv (yAsg rfl) <| nil <| cwQ <| seq <| region <| sv (yMove rfl) <| sv (yMove rfl) ?_
 refine sv (yLss rfl rfl) <| sv (yMove rfl) ?_
 refine sg rfl rfl rfl (fun g => (yMove rfl)) (fun v11 g11 => ?_)
 refine sg rfl rfl rfl (fun g => (yMove rfl)) (fun v12 g12 => ?_)
 refine sg rfl rfl rfl (fun g => (yGtr (g11.1 g) (g12.1 g))) (fun v13 g13 => ?_)
 refine sv (yOr rfl rfl (fun hB => (g13.1 hB))) <| sv (yAsg rfl) <| nil <| cwQ <| wp_ret ?_
 exact retV (res1 rfl rfl) hS.ext
theorem c_inS {a lo hi : Int} {w0 : World} : CV Tryz.prog 58 #[.int .i64 a, .int .i64 lo, .int .i64 hi] w0 (.bool (inB a lo hi)) := by
 refine enter func58 rfl ntmps58 rfl ?_
 have hS := St.start w0
 refine seq <| region <| sv (yAsg rfl) <| nil <| cwQ <| seq <| region <| sv (yMove rfl) <| sv (yMove rfl) ?_
 refine sv (yGeq rfl rfl) <| sv (yMove rfl) ?_
 refine sg rfl rfl rfl (fun g => (yMove rfl)) (fun v11 g11 => ?_)
 refine sg rfl rfl rfl (fun g => (yMove rfl)) (fun v12 g12 => ?_)
 refine sg rfl rfl rfl (fun g => (yLeq (g11.1 g) (g12.1 g))) (fun v13 g13 => ?_)
 refine sv (yAnd rfl (fun hB => (g13.1 hB)) rfl) <| sv (yAsg rfl) <| nil <| cwQ <| wp_ret ?_
 exact retV (res1 rfl rfl) hS.ext
theorem c_IndexCtr {l : List Ctr} {p : Ctr → Bool} {v : Value} {g : Nat} {cl : List Value} {w0 : World} (hsl : Sl w0 4 RCtr v l) (hcall : ∀ ys w, (callFunc g ys).run Tryz.prog w = .ok (.enter g ys) w) (hp : ∀ x w, x ∈ l → Ext w0 w → CV Tryz.prog g (.agg (ctrC x).toArray :: cl).toArray w (.bool (p x))) : CV Tryz.prog 158 #[v, .func (.func g) #[] cl.toArray] w0 (.int .i64 (idxF p l 0)) := by
 obtain ⟨a, cap, rfl, hcap, hmx, hel⟩ := hsl
 refine enter func158 rfl ntmps158 rfl ?_
 have hS := St.start w0
 refine seq <| region <| sv (yAsg rfl) <| nil <| cwQ <| seq <| seq <| region <| sv (yMove rfl) ?_
 refine sv (yLen rfl underlying26) <| sv (yMove rfl) <| nil <| cwQ <| block <| loop (fun f w zz => ∃ (k : Nat), f 0 = .slice a l.length cap ∧ f 1 = .func (.func g) #[] cl.toArray ∧ f 7 = .int .i64 (l.length : Int) ∧ f 8 = .int .i64 (k : Int) ∧ StX [] w0 w [] ∧ (k ≤ l.length) ∧ (idxF p l 0 = idxF p (l.drop k) k) ∧ zz = l.length - k) _ ⟨_, rfl, 0, rfl, rfl, rfl, rfl, hS, (Nat.zero_le _), (rfl), rfl⟩ ?_
 clear hS
 rintro f w _ ⟨k, h0, h1, h7, h8, hS, hk, hI, rfl⟩
 refine seq <| region <| sv (yLss h8 h7) <| nil <| cwQ <| seq ?_
 refine cond rfl (fun c9 => ?_) (fun c9 => ?_)
 ·
  simp only [BS, ne_eq] at c9
  refine skip <| cwQ <| seq <| block <| seq <| region <| sv (yMove h8) <| sv (yAsg rfl) <| nil ?_
  refine cwQ <| seq <| region ?_
  obtain ⟨x, hx, hd⟩ := drop_of (l := l) (k := k) (by omega)
  obtain ⟨b, o, cs, ha, hlen, hcs, hR⟩ := hel k (by omega)
  obtain rfl : x = l[k] := (List.getElem?_eq_some_iff.1 hx).2.symm
  obtain ⟨rfl, -⟩ := hR
  refine sv (yMove h1) <| sv (yMove h0) <| sv (yMove rfl) <| sv (yIxQ rfl ha rfl runUnderlying26 sizeOf57) <| sv (yLdA rfl isAgg57 sizeOf57 (hcs.ext hS.ext) rfl) ?_
  refine scallf rfl hcall (.cons rfl .nil) (hp _ _ (List.getElem_mem _) hS.ext) ?_
  rintro _ w ⟨rfl, hE⟩; replace hS := hS.step hE; clear hE
  refine nil <| cwQ ?_
  refine cond rfl (fun c16 => ?_) (fun c16 => ?_)
  ·
   refine seq <| region <| sv (yMove rfl) <| sv (yAsg rfl) <| nil <| cwQ ?_
   refine wp_ret (blockR (thenR (thenR (blockR (thenR ?_)))))
   exact retV (res1 rfl (by rw [hI, hd, idxF, if_pos c16]; rfl)) hS.ext
  ·
   refine skip <| cwQ <| region <| sv (yAdd h8 rfl ⟨by omega, by omega⟩) <| sv (yMove rfl) <| nil ?_
   exact ⟨_, _, rfl, ⟨k + 1, h0, h1, h7, rfl, hS, (by omega), (by rw [hI, hd, idxF, if_neg (by simp [c16])]; rfl), rfl⟩, by omega⟩
 ·
  simp only [BS, ne_eq] at c9
  refine exit <| cwQ <| seq <| region <| sv (yAsg rfl) <| nil <| cwQ ?_
  obtain rfl : k = l.length := by omega
  refine wp_ret ?_
  exact retV (res1 rfl (by rw [hI, List.drop_length]; rfl)) hS.ext
theorem c_ContainsCtr {l : List Ctr} {p : Ctr → Bool} {v : Value} {g : Nat} {cl : List Value} {w0 : World} (hsl : Sl w0 4 RCtr v l) (hcall : ∀ ys w, (callFunc g ys).run Tryz.prog w = .ok (.enter g ys) w) (hp : ∀ x w, x ∈ l → Ext w0 w → CV Tryz.prog g (.agg (ctrC x).toArray :: cl).toArray w (.bool (p x))) : CV Tryz.prog 103 #[v, .func (.func g) #[] cl.toArray] w0 (.bool (l.any p)) := by
 refine enter func103 rfl ntmps103 rfl ?_
 have hS := St.start w0
 refine seq <| region <| sv (yAsg rfl) <| nil <| cwQ <| seq <| region <| sv (yMove rfl) <| sv (yMove rfl) ?_
 refine scV hS call158 (.cons rfl (.cons rfl .nil)) (c_IndexCtr hsl hcall hp) ?_; clear hS; intro w hS
 refine sv (yGeq rfl rfl) <| sv (yAsg rfl) <| nil <| cwQ <| wp_ret ?_
 exact retV (res1 rfl (by rw [← idxF_any p l 0 (Int.le_refl 0)]; rfl)) hS.ext
theorem c_IndexFct {l : List Fct} {p : Fct → Bool} {v : Value} {g : Nat} {cl : List Value} {w0 : World} (hsl : Sl w0 4 RFct v l) (hcall : ∀ ys w, (callFunc g ys).run Tryz.prog w = .ok (.enter g ys) w) (hp : ∀ x cs w, x ∈ l → Ext w0 w → RFct w cs x → CV Tryz.prog g (.agg cs.toArray :: cl).toArray w (.bool (p x))) : CV Tryz.prog 162 #[v, .func (.func g) #[] cl.toArray] w0 (.int .i64 (idxF p l 0)) := by
 obtain ⟨a, cap, rfl, hcap, hmx, hel⟩ := hsl
 refine enter func162 rfl ntmps162 rfl ?_
 have hS := St.start w0
 refine seq <| region <| sv (yAsg rfl) <| nil <| cwQ <| seq <| seq <| region <| sv (yMove rfl) ?_
 refine sv (yLen rfl underlying27) <| sv (yMove rfl) <| nil <| cwQ <| block <| loop (fun f w zz => ∃ (k : Nat), f 0 = .slice a l.length cap ∧ f 1 = .func (.func g) #[] cl.toArray ∧ f 7 = .int .i64 (l.length : Int) ∧ f 8 = .int .i64 (k : Int) ∧ StX [] w0 w [] ∧ (k ≤ l.length) ∧ (idxF p l 0 = idxF p (l.drop k) k) ∧ zz = l.length - k) _ ⟨_, rfl, 0, rfl, rfl, rfl, rfl, hS, (Nat.zero_le _), (rfl), rfl⟩ ?_
 clear hS
 rintro f w _ ⟨k, h0, h1, h7, h8, hS, hk, hI, rfl⟩
 refine seq <| region <| sv (yLss h8 h7) <| nil <| cwQ <| seq ?_
 refine cond rfl (fun c9 => ?_) (fun c9 => ?_)
 ·
  simp only [BS, ne_eq] at c9
  refine skip <| cwQ <| seq <| block <| seq <| region <| sv (yMove h8) <| sv (yAsg rfl) <| nil ?_
  refine cwQ <| seq <| region ?_
  obtain ⟨x, hx, hd⟩ := drop_of (l := l) (k := k) (by omega)
  obtain ⟨b, o, cs, ha, hlen, hcs, hR⟩ := hel k (by omega)
  obtain rfl : x = l[k] := (List.getElem?_eq_some_iff.1 hx).2.symm
  refine sv (yMove h1) <| sv (yMove h0) <| sv (yMove rfl) <| sv (yIxQ rfl ha rfl runUnderlying27 sizeOf61) <| sv (yLdA rfl isAgg61 sizeOf61 (hcs.ext hS.ext) hlen) ?_
  refine scallf rfl hcall (.cons rfl .nil) (hp _ _ _ (List.getElem_mem _) hS.ext (RFct.stays _ _ _ _ hS.ext hR)) ?_
  rintro _ w ⟨rfl, hE⟩; replace hS := hS.step hE; clear hE
  refine nil <| cwQ ?_
  refine cond rfl (fun c16 => ?_) (fun c16 => ?_)
  ·
   refine seq <| region <| sv (yMove rfl) <| sv (yAsg rfl) <| nil <| cwQ ?_
   refine wp_ret (blockR (thenR (thenR (blockR (thenR ?_)))))
   exact retV (res1 rfl (by rw [hI, hd, idxF, if_pos c16]; rfl)) hS.ext
  ·
   refine skip <| cwQ <| region <| sv (yAdd h8 rfl ⟨by omega, by omega⟩) <| sv (yMove rfl) <| nil ?_
   exact ⟨_, _, rfl, ⟨k + 1, h0, h1, h7, rfl, hS, (by omega), (by rw [hI, hd, idxF, if_neg (by simp [c16])]; rfl), rfl⟩, by omega⟩
 ·
  simp only [BS, ne_eq] at c9
  refine exit <| cwQ <| seq <| region <| sv (yAsg rfl) <| nil <| cwQ ?_
  obtain rfl : k = l.length := by omega
  refine wp_ret ?_
  exact retV (res1 rfl (by rw [hI, List.drop_length]; rfl)) hS.ext
theorem c_ContainsFct {l : List Fct} {p : Fct → Bool} {v : Value} {g : Nat} {cl : List Value} {w0 : World} (hsl : Sl w0 4 RFct v l) (hcall : ∀ ys w, (callFunc g ys).run Tryz.prog w = .ok (.enter g ys) w) (hp : ∀ x cs w, x ∈ l → Ext w0 w → RFct w cs x → CV Tryz.prog g (.agg cs.toArray :: cl).toArray w (.bool (p x))) : CV Tryz.prog 111 #[v, .func (.func g) #[] cl.toArray] w0 (.bool (l.any p)) := by
 refine enter func111 rfl ntmps111 rfl ?_
 have hS := St.start w0
 refine seq <| region <| sv (yAsg rfl) <| nil <| cwQ <| seq <| region <| sv (yMove rfl) <| sv (yMove rfl) ?_
 refine scV hS call162 (.cons rfl (.cons rfl .nil)) (c_IndexFct hsl hcall hp) ?_; clear hS; intro w hS
 refine sv (yGeq rfl rfl) <| sv (yAsg rfl) <| nil <| cwQ <| wp_ret ?_
 exact retV (res1 rfl (by rw [← idxF_any p l 0 (Int.le_refl 0)]; rfl)) hS.ext
theorem c_IndexRow {l : List (List Int)} {p : (List Int) → Bool} {v : Value} {g : Nat} {cl : List Value} {w0 : World} (hsl : Sl w0 1 RRow v l) (hcall : ∀ ys w, (callFunc g ys).run Tryz.prog w = .ok (.enter g ys) w) (hp : ∀ x x0 w, x ∈ l → Ext w0 w → RRow w [x0] x → CV Tryz.prog g (x0 :: cl).toArray w (.bool (p x))) : CV Tryz.prog 159 #[v, .func (.func g) #[] cl.toArray] w0 (.int .i64 (idxF p l 0)) := by
 obtain ⟨a, cap, rfl, hcap, hmx, hel⟩ := hsl
 refine enter func159 rfl ntmps159 rfl ?_
 have hS := St.start w0
 refine seq <| region <| sv (yAsg rfl) <| nil <| cwQ <| seq <| seq <| region <| sv (yMove rfl) ?_
 refine sv (yLen rfl underlying59) <| sv (yMove rfl) <| nil <| cwQ <| block <| loop (fun f w zz => ∃ (k : Nat), f 0 = .slice a l.length cap ∧ f 1 = .func (.func g) #[] cl.toArray ∧ f 7 = .int .i64 (l.length : Int) ∧ f 8 = .int .i64 (k : Int) ∧ StX [] w0 w [] ∧ (k ≤ l.length) ∧ (idxF p l 0 = idxF p (l.drop k) k) ∧ zz = l.length - k) _ ⟨_, rfl, 0, rfl, rfl, rfl, rfl, hS, (Nat.zero_le _), (rfl), rfl⟩ ?_
 clear hS
 rintro f w _ ⟨k, h0, h1, h7, h8, hS, hk, hI, rfl⟩
 refine seq <| region <| sv (yLss h8 h7) <| nil <| cwQ <| seq ?_
 refine cond rfl (fun c9 => ?_) (fun c9 => ?_)
 ·
  simp only [BS, ne_eq] at c9
  refine skip <| cwQ <| seq <| block <| seq <| region <| sv (yMove h8) <| sv (yAsg rfl) <| nil ?_
  refine cwQ <| seq <| region ?_
  obtain ⟨x, hx, hd⟩ := drop_of (l := l) (k := k) (by omega)
  obtain ⟨b, o, cs, ha, hlen, hcs, hR⟩ := hel k (by omega)
  obtain rfl : x = l[k] := (List.getElem?_eq_some_iff.1 hx).2.symm
  obtain ⟨x0, rfl⟩ : ∃ x0, cs = [x0] := List.length_eq_one_iff.1 hlen
  refine sv (yMove h1) <| sv (yMove h0) <| sv (yMove rfl) <| sv (yIxQ rfl ha rfl runUnderlying59 sizeOf39) <| sv (yLd rfl isAgg39 (hcs.ext hS.ext).one) ?_
  refine scallf rfl hcall (.cons rfl .nil) (hp _ _ _ (List.getElem_mem _) hS.ext (RRow.stays _ _ _ _ hS.ext hR)) ?_
  rintro _ w ⟨rfl, hE⟩; replace hS := hS.step hE; clear hE
  refine nil <| cwQ ?_
  refine cond rfl (fun c16 => ?_) (fun c16 => ?_)
  ·
   refine seq <| region <| sv (yMove rfl) <| sv (yAsg rfl) <| nil <| cwQ ?_
   refine wp_ret (blockR (thenR (thenR (blockR (thenR ?_)))))
   exact retV (res1 rfl (by rw [hI, hd, idxF, if_pos c16]; rfl)) hS.ext
  ·
   refine skip <| cwQ <| region <| sv (yAdd h8 rfl ⟨by omega, by omega⟩) <| sv (yMove rfl) <| nil ?_
   exact ⟨_, _, rfl, ⟨k + 1, h0, h1, h7, rfl, hS, (by omega), (by rw [hI, hd, idxF, if_neg (by simp [c16])]; rfl), rfl⟩, by omega⟩
 ·
  simp only [BS, ne_eq] at c9
  refine exit <| cwQ <| seq <| region <| sv (yAsg rfl) <| nil <| cwQ ?_
  obtain rfl : k = l.length := by omega
  refine wp_ret ?_
  exact retV (res1 rfl (by rw [hI, List.drop_length]; rfl)) hS.ext
theorem c_ContainsRow {l : List (List Int)} {p : (List Int) → Bool} {v : Value} {g : Nat} {cl : List Value} {w0 : World} (hsl : Sl w0 1 RRow v l) (hcall : ∀ ys w, (callFunc g ys).run Tryz.prog w = .ok (.enter g ys) w) (hp : ∀ x x0 w, x ∈ l → Ext w0 w → RRow w [x0] x → CV Tryz.prog g (x0 :: cl).toArray w (.bool (p x))) : CV Tryz.prog 105 #[v, .func (.func g) #[] cl.toArray] w0 (.bool (l.any p)) := by
 refine enter func105 rfl ntmps105 rfl ?_
 have hS := St.start w0
 refine seq <| region <| sv (yAsg rfl) <| nil <| cwQ <| seq <| region <| sv (yMove rfl) <| sv (yMove rfl) ?_
 refine scV hS call159 (.cons rfl (.cons rfl .nil)) (c_IndexRow hsl hcall hp) ?_; clear hS; intro w hS
 refine sv (yGeq rfl rfl) <| sv (yAsg rfl) <| nil <| cwQ <| wp_ret ?_
 exact retV (res1 rfl (by rw [← idxF_any p l 0 (Int.le_refl 0)]; rfl)) hS.ext
set_option maxHeartbeats 1000000 in
theorem c_gausS {t : Sgt} {cs : List Value} {w0 : World} (h : RSgt w0 cs t) : CV Tryz.prog 55 #[.agg cs.toArray] w0 (.tuple #[.int .i64 (gausE t).1, .int .i64 (gausE t).2]) := by
 obtain ⟨cv, gv, tv, fv, rfl, hT, hG, hw64, hf64, hk64, hC, hF, hl64, hm64, hr64, hq64⟩ := id h
 obtain ⟨ag, cg, rfl, hgcap, hgmx, hgel⟩ := id hG
 obtain ⟨ak, ck, rfl, hkcap, hkmx, hkel⟩ := id hC
 obtain ⟨ae, ce, rfl, hecap, hemx, heel⟩ := id hF
 refine enter func55 rfl ntmps55 rfl ?_
 have hS := St.start w0
 refine seq <| region ?_
 refine sbox hS rfl rfl ?_; clear hS; intro b1 w hS
 refine sv (yAsg rfl) <| sv (yAsg rfl) <| nil <| cwQ <| seq <| seq <| region <| sv (fa29_1 rfl) <| sv (yLdB rfl isAgg25 (hS.at _) rfl) ?_
 refine sv (yLen rfl underlying25) <| sv (yGtr rfl rfl) <| nil <| cwQ ?_
 refine cond rfl (fun c13 => ?_) (fun c13 => ?_)
 ·
  simp only [BS, ne_eq] at c13
  refine seq <| region <| sv (yAsg rfl) <| sv (yAsg rfl) <| nil <| cwQ ?_
  have hfin : gausE t = (0, 3) := by unfold gausE; rw [if_pos c13]
  refine wp_ret (thenR ?_)
  exact retV (res2 rfl (by rw [hfin]; rfl) (by rw [hfin]; rfl)) hS.ext
 ·
  simp only [BS, ne_eq] at c13
  refine skip <| cwQ <| seq <| region ?_
  refine smkmap Value.string hS ?_; clear hS; intro b14 w hS
  refine sv (yAsg rfl) <| nil <| cwQ <| seq <| seq <| region <| sv (fa29_1 rfl) <| sv (yLdB rfl isAgg25 (hS.at _) rfl) <| sv (yLen rfl underlying25) ?_
  refine sv (yMove rfl) <| nil <| cwQ <| block <| loop (fun f w zz => ∃ (k : Nat), f 1 = ptQ b1 ∧ f 4 = .map (some b14) ∧ f 16 = .slice ag t.gauges.length cg ∧ f 17 = .int .i64 (t.gauges.length : Int) ∧ f 18 = .int .i64 (k : Int) ∧ StX [] w0 w [mapI b14 Value.string (seenM ((t.gauges.take k).map (·.name))), blk b1 (scQ t cv ag ak ae cg ck ce) 29] ∧ (k ≤ t.gauges.length) ∧ (firstN (gE t.gauges) t.gauges.length 0 = firstN (gE t.gauges) (t.gauges.length - k) k) ∧ zz = t.gauges.length - k) _ ⟨_, rfl, 0, rfl, rfl, rfl, rfl, rfl, hS, (Nat.zero_le _), (rfl), rfl⟩ ?_
  clear hS
  rintro f w _ ⟨k, h1, h4, h16, h17, h18, hS, hk, hI, rfl⟩
  refine seq <| region <| sv (yLss h18 h17) <| nil <| cwQ <| seq ?_
  refine cond rfl (fun c19 => ?_) (fun c19 => ?_)
  ·
   simp only [BS, ne_eq] at c19
   refine skip <| cwQ <| seq <| block <| seq <| region ?_
   obtain ⟨g, hx, hd⟩ := drop_of (l := t.gauges) (k := k) (by omega)
   obtain ⟨b, o, cs, ha, hlen, hcs, hR⟩ := hgel (k) (by omega)
   obtain rfl : g = t.gauges[k] := (List.getElem?_eq_some_iff.1 hx).2.symm
   generalize t.gauges[k] = g at hx hd hR
   have hg := hR
   obtain ⟨dv, rv, hcse, hnm, hge, hgr, hsd, hsr⟩ := id hg
   subst hcse
   obtain ⟨a1, cap1, rfl, hcap1, hmx1, hel1⟩ := id hsd
   obtain ⟨a2, cap2, rfl, hcap2, hmx2, hel2⟩ := id hsr
   refine sv (yMove h18) <| sv (yIxQ h16 ha h18 runUnderlying25 sizeOf68) <| sv (yLdA rfl isAgg68 sizeOf68 (hcs.ext hS.ext) hlen) ?_
   refine salloc hS zeroValue68 rfl ?_; clear hS; intro b6 w hS
   refine sv (yAsg rfl) ?_
   refine sst hS rfl rfl sizeOf68 rfl rfl rfl rfl ?_; clear hS; intro w hS
   refine nil <| cwQ <| seq <| region <| sv (yLdBA rfl isAgg68 sizeOf68 (hS.at _) rfl rfl) ?_
   refine scV hS call101 (.cons rfl .nil) (c_CheckGauge (hg.ext hS.ext)) ?_; clear hS; intro w hS
   refine sv (yMove rfl) <| sv (yExt rfl rfl) <| sv (yExt rfl rfl) <| sv (yExt rfl rfl) <| sv (yAsg rfl) <| sv (yAsg rfl) <| sv (yAsg rfl) <| nil <| cwQ ?_
   refine seq <| seq <| region <| sv (yMove rfl) <| sv (yEql rfl rfl) <| sv (yMove rfl) ?_
   refine sg rfl rfl rfl (fun g => (yMove h4)) (fun v32 g32 => ?_)
   refine sg rfl rfl rfl (fun g => (fa68_0 rfl)) (fun v33 g33 => ?_)
   refine sg rfl rfl rfl (fun g => (yLdB (g33.1 g) isAgg9 (hS.at _) rfl)) (fun v34 g34 => ?_)
   refine sg rfl rfl rfl (fun g => (yLook Value.string (g32.1 g) (g34.1 g) runUnderlying153 (keyStr underlying9) zeroValue4 (hS.is b14) (getM_seen _ _))) (fun v35 g35 => ?_)
   refine sv (yAnd rfl (fun hB => (g35.1 hB)) rfl) <| nil <| cwQ ?_
   refine cond rfl (fun c36 => ?_) (fun c36 => ?_)
   ·
    simp only [BS, ne_eq] at c36
    refine region <| sv (yAsg rfl) <| nil <| cwQ <| seq <| seq <| region <| sv (yMove rfl) <| sv (yNeq rfl rfl) ?_
    refine nil <| cwQ ?_
    refine cond rfl (fun c38 => ?_) (fun c38 => ?_)
    ·
     simp only [BS, ne_eq] at c38
     refine seq <| region <| sv (yMove rfl) <| sv (yMove rfl) <| sv (yAsg rfl) <| sv (yAsg rfl) <| nil <| cwQ ?_
     have hgz := gE_5 hx c36.1 c36.2
     have hN : firstN (gE t.gauges) t.gauges.length 0 = ((k : Int), 5) := by rw [hI, firstN_at (by omega) (by rw [hgz]; exact (show (5 : Int) ≠ 0 by decide)), hgz]
     have hfin : gausE t = ((k : Int), 5) := by unfold gausE; rw [if_neg c13, if_pos (by rw [hN]; exact (show (5 : Int) ≠ 0 by decide)), hN]
     refine wp_ret (thenR (blockR (thenR (thenR (blockR (thenR ?_))))))
     exact retV (res2 rfl (by rw [hfin]; rfl) (by rw [hfin]; rfl)) hS.ext
    ·
     simp only [BS, ne_eq] at c38
     exact absurd c38 (by decide)
   ·
    simp only [BS, ne_eq] at c36
    refine skip <| cwQ <| seq <| seq <| region <| sv (yMove rfl) <| sv (yNeq rfl rfl) <| nil <| cwQ ?_
    refine cond rfl (fun c38 => ?_) (fun c38 => ?_)
    ·
     simp only [BS, ne_eq] at c38
     refine seq <| region <| sv (yMove rfl) <| sv (yMove rfl) <| sv (yAsg rfl) <| sv (yAsg rfl) <| nil <| cwQ ?_
     have hgz := gE_g hx c38
     have hN : firstN (gE t.gauges) t.gauges.length 0 = ((k : Int), (checkG g).2.2) := by rw [hI, firstN_at (by omega) (by rw [hgz]; exact c38), hgz]
     have hfin : gausE t = ((k : Int), (checkG g).2.2) := by unfold gausE; rw [if_neg c13, if_pos (by rw [hN]; exact c38), hN]
     refine wp_ret (thenR (blockR (thenR (thenR (blockR (thenR ?_))))))
     exact retV (res2 rfl (by rw [hfin]; rfl) (by rw [hfin]; rfl)) hS.ext
    ·
     simp only [BS, ne_eq] at c38
     have hm0 : memB g.name ((t.gauges.take k).map (·.name)) = false := c36.resolve_left (fun q => q c38)
     refine skip <| cwQ <| region <| sv (yMove h4) <| sv (fa68_0 rfl) <| sv (yLdB rfl isAgg9 (hS.at _) rfl) ?_
     refine smapset Value.string hS rfl rfl rfl runUnderlying153 (keyStr underlying9) ?_; clear hS; intro w hS
     refine nil <| cwQ <| region <| sv (yAdd h18 rfl ⟨by omega, by omega⟩) <| sv (yMove rfl) <| nil ?_
     exact ⟨_, _, rfl, ⟨k + 1, h1, h4, h16, h17, rfl, (by rw [take_snoc hx, List.map_append, List.map_cons, List.map_nil, ← setM_seen _ _ (fun k => by rw [memB_iff.2 k] at hm0; cases hm0)]; exact hS.sub (.cons _ lrQ)), (by omega), (by rw [hI]; exact firstN_go (by omega) (gE_0 hx c38 hm0)), rfl⟩, by omega⟩
  ·
   simp only [BS, ne_eq] at c19
   obtain rfl : k = t.gauges.length := by omega
   have he : (firstN (gE t.gauges) t.gauges.length 0).2 = 0 := by rw [hI, Nat.sub_self]; rfl
   refine exit <| cwQ <| seq <| seq <| region <| sv (fa29_2 h1) <| sv (yLdB rfl isAgg3 (hS.at _) rfl) <| sv (yNeq rfl rfl) <| sv (yMove rfl) ?_
   refine sg rfl rfl rfl (fun g => (fa29_2 h1)) (fun v49 g49 => ?_)
   refine sg rfl rfl rfl (fun g => (yLdB (g49.1 g) isAgg3 (hS.at _) rfl)) (fun v50 g50 => ?_)
   refine sg rfl rfl rfl (fun g => (fa29_1 h1)) (fun v51 g51 => ?_)
   refine sg rfl rfl rfl (fun g => (yLdB (g51.1 g) isAgg25 (hS.at _) rfl)) (fun v52 g52 => ?_)
   refine sg rfl rfl rfl (fun g => (yLen (g52.1 g) underlying25)) (fun v53 g53 => ?_)
   refine sg rfl rfl rfl (fun g => (ySub (g53.1 g) rfl ⟨by omega, by omega⟩)) (fun v54 g54 => ?_)
   refine sgc hS rfl rfl rfl call53 (fun g => (.cons (g50.1 g) (.cons rfl (.cons (g54.1 g) .nil)))) (fun g => c_outS) ?_; clear hS; intro v55 w hS g55
   refine sv (yAnd rfl (fun hB => (g55.1 hB)) rfl) <| nil <| cwQ ?_
   refine cond rfl (fun c56 => ?_) (fun c56 => ?_)
   ·
    refine seq <| region <| sv (yAsg rfl) <| sv (yAsg rfl) <| nil <| cwQ ?_
    have hfin : gausE t = (0, 7) := by unfold gausE; rw [if_neg c13, if_neg (fun k => k he), if_pos (show wrongB t = true from c56)]
    refine wp_ret (thenR ?_)
    exact retV (res2 rfl (by rw [hfin]; rfl) (by rw [hfin]; rfl)) hS.ext
   ·
    refine skip <| cwQ <| seq <| region <| sv (yAsg rfl) <| sv (yAsg rfl) <| nil <| cwQ ?_
    have hfin : gausE t = (0, 0) := by unfold gausE; rw [if_neg c13, if_neg (fun k => k he), if_neg (show ¬ wrongB t = true from by rw [show wrongB t = false from c56]; decide)]
    refine wp_ret ?_
    exact retV (res2 rfl (by rw [hfin]; rfl) (by rw [hfin]; rfl)) hS.ext
end Go.Proofs.YtgidbailiababaaGreatDoor

/- part Sw2 -/
namespace Go.Proofs.YtgidbailiababaaGreatDoor
open Go Bx Go.Proofs.Tryz
theorem c_centS1 {x z : Ctr} {b : Nat} {T : TypeId} {w0 : World} (hb : w0.heap[b]? = some (.cells [.string z.name, .int .i64 z.late, .int .i64 z.base, .int .i64 z.growth].toArray T (0, 0))) : CV Tryz.prog 104 #[.agg (ctrC x).toArray, ptQ b] w0 (.bool (decide (x.name = z.name))) := by
 refine enter func104 rfl ntmps104 rfl ?_
 have hS := St.start w0
 refine seq <| region ?_
 refine sbox hS rfl rfl ?_; clear hS; intro b2 w hS
 refine sv (yAsg rfl) <| nil <| cwQ <| seq <| region <| sv (fa57_0 rfl) <| sv (yLdB rfl isAgg9 (hS.at _) rfl) <| sv (fa57_0 rfl) <| sv (yLdB rfl isAgg9 (hS.ext.get hb) rfl) ?_
 refine sv (ySEq rfl rfl) <| sv (yAsg rfl) <| nil <| cwQ <| wp_ret ?_
 exact retV (res1 rfl rfl) hS.ext
set_option maxHeartbeats 1000000 in
theorem c_centS {t : Sgt} {cs : List Value} {i : Nat} {w0 : World} (h : RSgt w0 cs t) (hi : i < t.ctrs.length) : CV Tryz.prog 56 #[.agg cs.toArray, .int .i64 (i : Int)] w0 (.int .i64 (cE t.ctrs i)) := by
 obtain ⟨cv, gv, tv, fv, rfl, hT, hG, hw64, hf64, hk64, hC, hF, hl64, hm64, hr64, hq64⟩ := id h
 obtain ⟨ag, cg, rfl, hgcap, hgmx, hgel⟩ := id hG
 obtain ⟨ak, ck, rfl, hkcap, hkmx, hkel⟩ := id hC
 obtain ⟨ae, ce, rfl, hecap, hemx, heel⟩ := id hF
 obtain ⟨bx, ox, cx, hax, hlx, hcx, hRx, -⟩ := sl_at hC (ctr_get hi)
 obtain ⟨rfl, hnm, -⟩ := hRx
 refine enter func56 rfl ntmps56 rfl ?_
 have hS := St.start w0
 refine seq <| region ?_
 refine sbox hS rfl rfl ?_; clear hS; intro b2 w hS
 refine sv (yAsg rfl) <| nil <| cwQ <| seq <| region <| sv (fa29_5 rfl) <| sv (yLdB rfl isAgg26 (hS.at _) rfl) <| sv (yMove rfl) <| sv (yIxQ rfl hax rfl runUnderlying26 sizeOf57) ?_
 refine sv (yLdA rfl isAgg57 sizeOf57 (hcx.ext hS.ext) rfl) ?_
 refine salloc hS zeroValue57 rfl ?_; clear hS; intro b5 w hS
 refine sst hS rfl rfl sizeOf57 rfl rfl rfl rfl ?_; clear hS; intro w hS
 refine nil <| cwQ <| seq <| block <| seq <| region <| sv (fa57_0 rfl) <| sv (yLdB rfl isAgg9 (hS.at _) rfl) ?_
 refine scV hS call102 (.cons rfl .nil) (c_Name hnm) ?_; clear hS; intro w hS
 refine sv (yNot rfl) <| sv (yAsg rfl) <| nil <| cwQ ?_
 refine cond rfl (fun c11 => ?_) (fun c11 => ?_)
 ·
  refine seq <| region <| sv (yAsg rfl) <| nil <| cwQ ?_
  refine wp_ret (blockR (thenR ?_))
  exact retV (res1 rfl (eqI (by unfold cE; rw [if_pos c11]))) hS.ext
 ·
  refine seq <| region <| sv (fa29_5 rfl) <| sv (yLdB rfl isAgg26 (hS.at _) rfl) <| sv (yMove rfl) <| sv (yTo rfl rfl underlying26 sizeOf57 (by omega)) <| sv (yFn (.cons rfl .nil)) ?_
  refine scV hS call103 (.cons rfl (.cons rfl .nil)) (c_ContainsCtr (l := t.ctrs.take i) (p := fun x => decide (x.name = (ctr t.ctrs i).name)) (cl := [ptQ b5]) ((hC.take (by omega)).ext RCtr.stays hS.ext) call104 (fun x w hx e => c_centS1 (e.get (hS.at b5)))) ?_; clear hS; intro w hS
  refine sv (yAsg rfl) <| nil <| cwQ ?_
  refine cond rfl (fun c16 => ?_) (fun c16 => ?_)
  ·
   refine seq <| region <| sv (yAsg rfl) <| nil <| cwQ ?_
   refine wp_ret (blockR (thenR ?_))
   exact retV (res1 rfl (eqI (by unfold cE; rw [if_neg (by rw [c11]; decide), if_pos c16]))) hS.ext
  ·
   refine seq <| region <| sv (fa57_1 rfl) <| sv (yLdB rfl isAgg3 (hS.at _) rfl) ?_
   refine scV hS call53 (.cons rfl (.cons rfl (.cons rfl .nil))) c_outS ?_; clear hS; intro w hS
   refine sv (yMove rfl) ?_
   refine sg rfl rfl rfl (fun g => (fa57_2 rfl)) (fun v28 g28 => ?_)
   refine sg rfl rfl rfl (fun g => (yLdB (g28.1 g) isAgg3 (hS.at _) rfl)) (fun v29 g29 => ?_)
   refine sgc hS rfl rfl rfl call53 (fun g => (.cons (g29.1 g) (.cons rfl (.cons rfl .nil)))) (fun g => c_outS) ?_; clear hS; intro v30 w hS g30
   refine sv (yOr rfl rfl (fun hB => (g30.1 hB))) <| sv (yMove rfl) ?_
   refine sg rfl rfl rfl (fun g => (fa57_3 rfl)) (fun v33 g33 => ?_)
   refine sg rfl rfl rfl (fun g => (yLdB (g33.1 g) isAgg3 (hS.at _) rfl)) (fun v34 g34 => ?_)
   refine sgc hS rfl rfl rfl call53 (fun g => (.cons (g34.1 g) (.cons rfl (.cons rfl .nil)))) (fun g => c_outS) ?_; clear hS; intro v35 w hS g35
   refine sv (yOr rfl rfl (fun hB => (g35.1 hB))) <| sv (yAsg rfl) <| nil <| cwQ ?_
   refine cond rfl (fun c23 => ?_) (fun c23 => ?_)
   ·
    refine seq <| region <| sv (yAsg rfl) <| nil <| cwQ ?_
    refine wp_ret (blockR (thenR ?_))
    exact retV (res1 rfl (eqI (by unfold cE; rw [if_neg (by rw [c11]; decide), if_neg (by rw [c16]; decide), if_pos (show ctrB (ctr t.ctrs i) = true from c23)]))) hS.ext
   ·
    refine skip <| cwQ <| seq <| region <| sv (yAsg rfl) <| nil <| cwQ <| wp_ret ?_
    exact retV (res1 rfl (eqI (by unfold cE; rw [if_neg (by rw [c11]; decide), if_neg (by rw [c16]; decide), if_neg (by rw [show ctrB (ctr t.ctrs i) = false from c23]; decide)]))) hS.ext
theorem c_GrowI {m : Nat} {w0 : World} (hm : m ≤ 1000) : CE Tryz.prog 161 #[.slice none 0 0, .int .i64 (m : Int)] w0 (fun u w' => St w0 w' [rowI u 3 1 0 []]) := by
 refine enter func161 rfl ntmps161 rfl ?_
 have hS := St.start w0
 refine seq <| region <| sv (yAsg rfl) <| nil <| cwQ <| seq <| seq <| region <| sv (yMove rfl) ?_
 refine sv (yLss rfl rfl) <| nil <| cwQ ?_
 refine cond rfl (fun c6 => ?_) (fun c6 => ?_)
 ·
  simp only [BS, ne_eq] at c6
  exfalso; omega
 ·
  simp only [BS, ne_eq] at c6
  refine skip <| cwQ <| seq <| seq <| region <| sv (yMove rfl) <| sv (yMove rfl) <| sv (yCap rfl underlying39) <| sv (yMove rfl) ?_
  refine sv (yLen rfl underlying39) <| sv (ySub rfl rfl ⟨by omega, by omega⟩) <| sv (Y.to (ySub rfl rfl ⟨by omega, by omega⟩) (congrArg (Value.int .i64) (show (m : Int) - (((0 : Nat) : Int) - ((0 : Nat) : Int)) = (m : Int) by omega))) <| sv (yAsg rfl) <| nil <| cwQ <| seq <| region <| sv (yMove rfl) ?_
  refine sv (yGtr rfl rfl) <| nil <| cwQ ?_
  refine cond rfl (fun c16 => ?_) (fun c16 => ?_)
  ·
   simp only [BS, ne_eq] at c16
   have hm0 : 0 < m := by omega
   refine region <| sv (yMove rfl) <| sv (yMove rfl) <| sv (yCap rfl underlying39) <| sv (yTo (i := 0) rfl rfl underlying39 sizeOf3 (by omega)) <| sv (yMove rfl) ?_
   refine sappZ (bytes := 8) hS rfl rfl underlying39 underlying3 ti3 rfl rfl rfl rfl hm0 (by omega) (by decide) ?_; clear hS; intro b22 cap22 w hcap hS
   refine sv (yMove rfl) <| sv (yLen rfl underlying39) <| sv (yTo (i := 0) rfl rfl underlying39 sizeOf3 (by omega)) <| sv (yAsg rfl) <| nil <| cwQ <| seq <| region <| sv (yMove rfl) ?_
   refine sv (yAsg rfl) <| nil <| cwQ <| wp_ret <| retQ (res1 rfl rfl) ?_
   exact hS
  ·
   simp only [BS, ne_eq] at c16
   refine skip <| cwQ <| seq <| region <| sv (yMove rfl) <| sv (yAsg rfl) <| nil <| cwQ <| wp_ret ?_
   refine retQ (res1 rfl rfl) ?_
   exact hS.nilrow 3 1
set_option maxHeartbeats 1000000 in
theorem c_ConcatI {ls : List (List Int)} {v : Value} {w0 : World} (hsl : Sl w0 1 RRow v ls) (hn : ls.length ≤ 4) (hln : ∀ l ∈ ls, l.length ≤ 200) : CE Tryz.prog 109 #[v] w0 (fun u w' => St w0 w' [rowI u 3 1 ls.flatten.length (ls.flatten.flatMap Bx.encI)]) := by
 obtain ⟨a, cap, rfl, hcap, hmx, hel⟩ := id hsl
 have hfl := flat_bd hn hln
 refine enter func109 rfl ntmps109 rfl ?_
 have hS := St.start w0
 refine seq <| region <| sv (yAsg rfl) <| nil <| cwQ <| seq <| region <| sv (yAsg rfl) <| nil ?_
 refine cwQ <| seq <| seq <| region <| sv (yMove rfl) <| sv (yLen rfl underlying59) <| sv (yMove rfl) <| nil <| cwQ ?_
 refine block <| loop (fun f w zz => ∃ (k : Nat), f 0 = .slice a ls.length cap ∧ f 3 = .int .i64 ((ls.take k).flatten.length : Int) ∧ f 9 = .slice a ls.length cap ∧ f 10 = .int .i64 (ls.length : Int) ∧ f 11 = .int .i64 (k : Int) ∧ StX [] w0 w [] ∧ (k ≤ ls.length) ∧ zz = ls.length - k) _ ⟨_, rfl, 0, rfl, rfl, rfl, rfl, rfl, hS, (Nat.zero_le _), rfl⟩ ?_
 clear hS
 rintro f w _ ⟨k, h0, h3, h9, h10, h11, hS, hk, rfl⟩
 refine seq <| region <| sv (yLss h11 h10) <| nil <| cwQ <| seq ?_
 refine cond rfl (fun c12 => ?_) (fun c12 => ?_)
 ·
  simp only [BS, ne_eq] at c12
  obtain ⟨x, hx, hd⟩ := drop_of (l := ls) (k := k) (by omega)
  obtain ⟨b, o, cs, ha, hlen, hcs, hR⟩ := hel k (by omega)
  obtain rfl : x = ls[k] := (List.getElem?_eq_some_iff.1 hx).2.symm
  generalize ls[k] = x at hx hd hR
  obtain ⟨v0, rfl, hxs⟩ := hR
  obtain ⟨ax, capx, rfl, hxcap, hxmx, hxel⟩ := id hxs
  have hxl := hln x (List.mem_of_getElem? hx)
  have hft := flat_take hn hln k
  refine skip <| cwQ <| seq <| block <| seq <| region <| sv (yIxQ h9 ha h11 runUnderlying59 sizeOf39) <| sv (yLd rfl isAgg39 (hcs.ext hS.ext).one) <| sv (yAsg rfl) ?_
  refine nil <| cwQ <| seq <| region <| sv (yMove h3) <| sv (yMove rfl) <| sv (yLen rfl underlying39) <| sv (yAdd rfl rfl ⟨by omega, by omega⟩) <| sv (yAsg rfl) ?_
  refine nil <| cwQ <| seq <| region <| sv (yMove rfl) <| sv (yLss rfl rfl) <| nil <| cwQ ?_
  refine cond rfl (fun c20 => ?_) (fun c20 => ?_)
  ·
   simp only [BS, ne_eq] at c20
   exfalso; omega
  ·
   simp only [BS, ne_eq] at c20
   refine skip <| cwQ <| region <| sv (yAdd h11 rfl ⟨by omega, by omega⟩) <| sv (yMove rfl) <| nil ?_
   exact ⟨_, _, rfl, ⟨k + 1, h0, (rfl.trans (congrArg (Value.int .i64) (by rw [take_snoc hx]; simp))), h9, h10, rfl, hS, (by omega), rfl⟩, by omega⟩
 ·
  simp only [BS, ne_eq] at c12
  obtain rfl : k = ls.length := by omega
  rw [List.take_length] at h3
  refine exit <| cwQ <| seq <| region <| sv (yMove h3) ?_
  refine scall call161 (.cons rfl (.cons rfl .nil)) (c_GrowI (m := ls.flatten.length) (by omega)) ?_
  rintro gv w hM; replace hS := hS.call1 hM; clear hM
  refine sv (yAsg rfl) <| nil <| cwQ <| seq <| seq <| region <| sv (yMove h0) <| sv (yLen rfl underlying59) <| sv (yMove rfl) ?_
  refine nil <| cwQ <| block <| loop (fun f w zz => ∃ (k : Nat) (cv : Value), f 6 = cv ∧ f 25 = .slice a ls.length cap ∧ f 26 = .int .i64 (ls.length : Int) ∧ f 27 = .int .i64 (k : Int) ∧ StX [] w0 w [rowI (cv) 3 1 (ls.take k).flatten.length ((ls.take k).flatten.flatMap Bx.encI)] ∧ (k ≤ ls.length) ∧ zz = ls.length - k) _ ⟨_, rfl, 0, _, rfl, rfl, rfl, rfl, hS, (Nat.zero_le _), rfl⟩ ?_
  clear hS
  rintro f w _ ⟨k, cv, h6, h25, h26, h27, hS, hk, rfl⟩
  refine seq <| region <| sv (yLss h27 h26) <| nil <| cwQ <| seq ?_
  refine cond rfl (fun c28 => ?_) (fun c28 => ?_)
  ·
   simp only [BS, ne_eq] at c28
   obtain ⟨x, hx, hd⟩ := drop_of (l := ls) (k := k) (by omega)
   obtain ⟨b, o, cs, ha, hlen, hcs, hR⟩ := hel k (by omega)
   obtain rfl : x = ls[k] := (List.getElem?_eq_some_iff.1 hx).2.symm
   generalize ls[k] = x at hx hd hR
   obtain ⟨v0, rfl, hxs⟩ := hR
   obtain ⟨ax, capx, rfl, hxcap, hxmx, hxel⟩ := id hxs
   have hxl := hln x (List.mem_of_getElem? hx)
   have hft := flat_take hn hln k
   obtain ⟨acv, ccv, rfl⟩ := row_shape (hS.row cv)
   refine skip <| cwQ <| seq <| block <| seq <| region <| sv (yIxQ h25 ha h27 runUnderlying59 sizeOf39) <| sv (yLd rfl isAgg39 (hcs.ext hS.ext).one) <| sv (yAsg rfl) ?_
   refine nil <| cwQ <| region <| sv (yMove h6) <| sv (yMove rfl) ?_
   refine sappS (bytes := 8) (size := 1) hS rfl rfl underlying39 ti3 rfl rfl rfl rfl (by decide) sizeOf3 (fun hh => by obtain ⟨bd, od, e1, e2⟩ := ints_news hxs hh; exact ⟨bd, od, e1, e2.ext hS.ext⟩) (by rw [flat_len encI_len]) (ints_one x) (by omega) (by omega) ?_; clear hS; intro v33 w hS
   refine sv (yAsg rfl) <| nil <| cwQ <| region <| sv (yAdd h27 rfl ⟨by omega, by omega⟩) <| sv (yMove rfl) <| nil ?_
   exact ⟨_, _, rfl, ⟨k + 1, _, rfl, h25, h26, rfl, (by rw [take_snoc hx, List.flatten_append, List.length_append, List.flatMap_append, List.flatten_singleton]; exact hS), (by omega), rfl⟩, by omega⟩
  ·
   simp only [BS, ne_eq] at c28
   obtain rfl : k = ls.length := by omega
   rw [List.take_length] at hS
   refine exit <| cwQ <| seq <| region <| sv (yMove h6) <| sv (yAsg rfl) <| nil <| cwQ <| wp_ret ?_
   refine retQ (res1 rfl rfl) ?_
   exact hS
end Go.Proofs.YtgidbailiababaaGreatDoor

/- part Sw3 -/
namespace Go.Proofs.YtgidbailiababaaGreatDoor
open Go Bx Go.Proofs.Tryz
theorem c_foreS1 {l : List Int} {v : Value} {w0 : World} (hl : RRow w0 [v] l) : CV Tryz.prog 106 #[v] w0 (.bool (outB l.length 1 200)) := by
 obtain ⟨v, e, hl⟩ := hl
 obtain ⟨rfl⟩ := List.cons.inj e |>.1
 obtain ⟨a, cap, rfl, hcap, hmx, hel⟩ := id hl
 refine enter func106 rfl ntmps106 rfl ?_
 have hS := St.start w0
 refine seq <| region <| sv (yAsg rfl) <| nil <| cwQ <| seq <| region <| sv (yMove rfl) <| sv (yLen rfl underlying39) ?_
 refine scV hS call53 (.cons rfl (.cons rfl (.cons rfl .nil))) c_outS ?_; clear hS; intro w hS
 refine sv (yAsg rfl) <| nil <| cwQ <| wp_ret ?_
 exact retV (res1 rfl rfl) hS.ext
theorem c_foreS2 {l : List Int} {v : Value} {f : Fct} {am : Option Addr} {cm b : Nat} {T : TypeId} {w0 : World} (hl : RRow w0 [v] l) (hM : Sl w0 1 RRow (.slice am f.members.length cm) f.members) (hm : 0 < f.members.length) (hb : w0.heap[b]? = some (.cells [.int .i64 f.centre, .int .i64 f.issued, .int .i64 f.frm, .slice am f.members.length cm].toArray T (0, 0))) : CV Tryz.prog 107 #[v, ptQ b] w0 (.bool (decide ((l.length : Int) ≠ (f.members.getD 0 []).length))) := by
 obtain ⟨v, e, hl⟩ := hl
 obtain ⟨rfl⟩ := List.cons.inj e |>.1
 obtain ⟨a, cap, rfl, hcap, hmx, hel⟩ := id hl
 obtain ⟨bx, ox, cx, hax, hlx, hcx, hRx, -⟩ := sl_at hM (show f.members[0]? = some (f.members.getD 0 []) by simp [hm])
 obtain ⟨v0, rfl, hv0⟩ := hRx
 obtain ⟨a0, cap0, rfl, -⟩ := id hv0
 refine enter func107 rfl ntmps107 rfl ?_
 have hS := St.start w0
 refine seq <| region <| sv (yAsg rfl) <| nil <| cwQ <| seq <| region <| sv (yMove rfl) <| sv (yLen rfl underlying39) ?_
 refine sv (fa61_3 rfl) <| sv (yLdB rfl isAgg59 (hS.ext.get hb) rfl) <| sv (yIxQ rfl hax (show _ = Value.int .i64 ((0 : Nat) : Int) from rfl) runUnderlying59 sizeOf39) <| sv (yLd rfl isAgg39 (hcx.ext hS.ext).one) <| sv (yLen rfl underlying39) <| sv (yNeq rfl rfl) <| sv (yAsg rfl) <| nil <| cwQ ?_
 refine wp_ret ?_
 exact retV (res1 rfl rfl) hS.ext
theorem c_foreS3 {a : Int} {w0 : World} : CV Tryz.prog 110 #[.int .i64 a] w0 (.bool (outB a (-10000) 10000)) := by
 refine enter func110 rfl ntmps110 rfl ?_
 have hS := St.start w0
 refine seq <| region <| sv (yAsg rfl) <| nil <| cwQ <| seq <| region <| sv (yMove rfl) ?_
 refine scV hS call53 (.cons rfl (.cons rfl (.cons rfl .nil))) c_outS ?_; clear hS; intro w hS
 refine sv (yAsg rfl) <| nil <| cwQ <| wp_ret ?_
 exact retV (res1 rfl rfl) hS.ext
theorem c_foreS4 {x f : Fct} {cs : List Value} {am : Option Addr} {cm b : Nat} {T : TypeId} {w0 : World} (hx : RFct w0 cs x) (hb : w0.heap[b]? = some (.cells [.int .i64 f.centre, .int .i64 f.issued, .int .i64 f.frm, .slice am f.members.length cm].toArray T (0, 0))) : CV Tryz.prog 112 #[.agg cs.toArray, ptQ b] w0 (.bool (decide (x.centre = f.centre) && decide (x.issued = f.issued))) := by
 obtain ⟨xv, rfl, -⟩ := id hx
 refine enter func112 rfl ntmps112 rfl ?_
 have hS := St.start w0
 refine seq <| region ?_
 refine sbox hS rfl rfl ?_; clear hS; intro b2 w hS
 refine sv (yAsg rfl) <| nil <| cwQ <| seq <| region <| sv (fa61_0 rfl) <| sv (yLdB rfl isAgg3 (hS.at _) rfl) <| sv (fa61_0 rfl) <| sv (yLdB rfl isAgg3 (hS.ext.get hb) rfl) ?_
 refine sv (yEql rfl rfl) <| sv (yMove rfl) ?_
 refine sg rfl rfl rfl (fun g => (fa61_1 rfl)) (fun v10 g10 => ?_)
 refine sg rfl rfl rfl (fun g => (yLdB (g10.1 g) isAgg3 (hS.at _) rfl)) (fun v11 g11 => ?_)
 refine sg rfl rfl rfl (fun g => (fa61_1 rfl)) (fun v12 g12 => ?_)
 refine sg rfl rfl rfl (fun g => (yLdB (g12.1 g) isAgg3 (hS.ext.get hb) rfl)) (fun v13 g13 => ?_)
 refine sg rfl rfl rfl (fun g => (yEql (g11.1 g) (g13.1 g))) (fun v14 g14 => ?_)
 refine sv (yAnd rfl (fun hB => (g14.1 hB)) rfl) <| sv (yAsg rfl) <| nil <| cwQ <| wp_ret ?_
 exact retV (res1 rfl rfl) hS.ext
set_option maxHeartbeats 2000000 in
theorem c_foreS {t : Sgt} {cs : List Value} {i : Nat} {w0 : World} (h : RSgt w0 cs t) (hi : i < t.fcs.length) : CV Tryz.prog 57 #[.agg cs.toArray, .int .i64 (i : Int)] w0 (.int .i64 (fE t.ctrs.length t.fcs i)) := by
 obtain ⟨cv, gv, tv, fv, rfl, hT, hG, hw64, hf64, hk64, hC, hF, hl64, hm64, hr64, hq64⟩ := id h
 obtain ⟨ag, cg, rfl, hgcap, hgmx, hgel⟩ := id hG
 obtain ⟨ak, ck, rfl, hkcap, hkmx, hkel⟩ := id hC
 obtain ⟨ae, ce, rfl, hecap, hemx, heel⟩ := id hF
 obtain ⟨bx, ox, cx, hax, hlx, hcx, hRx, -⟩ := sl_at hF (fct_get hi)
 obtain ⟨mv, rfl, hf1, hf2, hf3, hM⟩ := id hRx
 obtain ⟨am, cm, rfl, hmcap, hmmx, hmel⟩ := id hM
 refine enter func57 rfl ntmps57 rfl ?_
 have hS := St.start w0
 refine seq <| region ?_
 refine sbox hS rfl rfl ?_; clear hS; intro b2 w hS
 refine sv (yAsg rfl) <| nil <| cwQ <| seq <| region <| sv (fa29_6 rfl) <| sv (yLdB rfl isAgg27 (hS.at _) rfl) <| sv (yMove rfl) <| sv (yIxQ rfl hax rfl runUnderlying27 sizeOf61) ?_
 refine sv (yLdA rfl isAgg61 sizeOf61 (hcx.ext hS.ext) rfl) ?_
 refine salloc hS zeroValue61 rfl ?_; clear hS; intro b5 w hS
 refine sst hS rfl rfl sizeOf61 rfl rfl rfl rfl ?_; clear hS; intro w hS
 refine nil <| cwQ <| seq <| block <| seq <| region <| sv (fa61_0 rfl) <| sv (yLdB rfl isAgg3 (hS.at _) rfl) <| sv (fa29_5 rfl) ?_
 refine sv (yLdB rfl isAgg26 (hS.at _) rfl) <| sv (yLen rfl underlying26) <| sv (ySub rfl rfl ⟨by omega, by omega⟩) ?_
 refine scV hS call53 (.cons rfl (.cons rfl (.cons rfl .nil))) c_outS ?_; clear hS; intro w hS
 refine sv (yAsg rfl) <| nil <| cwQ ?_
 refine cond rfl (fun c11 => ?_) (fun c11 => ?_)
 ·
  refine seq <| region <| sv (yAsg rfl) <| nil <| cwQ ?_
  refine wp_ret (blockR (thenR ?_))
  exact retV (res1 rfl (eqI (by unfold fE; rw [if_pos c11]))) hS.ext
 ·
  refine seq <| region <| sv (fa61_1 rfl) <| sv (yLdB rfl isAgg3 (hS.at _) rfl) ?_
  refine scV hS call53 (.cons rfl (.cons rfl (.cons rfl .nil))) c_outS ?_; clear hS; intro w hS
  refine sv (yMove rfl) ?_
  refine sg rfl rfl rfl (fun g => (fa61_2 rfl)) (fun v24 g24 => ?_)
  refine sg rfl rfl rfl (fun g => (yLdB (g24.1 g) isAgg3 (hS.at _) rfl)) (fun v25 g25 => ?_)
  refine sgc hS rfl rfl rfl call53 (fun g => (.cons (g25.1 g) (.cons rfl (.cons rfl .nil)))) (fun g => c_outS) ?_; clear hS; intro v26 w hS g26
  refine sv (yOr rfl rfl (fun hB => (g26.1 hB))) <| sv (yAsg rfl) <| nil <| cwQ ?_
  refine cond rfl (fun c19 => ?_) (fun c19 => ?_)
  ·
   refine seq <| region <| sv (yAsg rfl) <| nil <| cwQ ?_
   refine wp_ret (blockR (thenR ?_))
   exact retV (res1 rfl (eqI (by unfold fE; rw [if_neg (by rw [c11]; decide), if_pos c19]))) hS.ext
  ·
   refine seq <| region <| sv (fa61_3 rfl) <| sv (yLdB rfl isAgg59 (hS.at _) rfl) <| sv (yLen rfl underlying59) ?_
   refine scV hS call53 (.cons rfl (.cons rfl (.cons rfl .nil))) c_outS ?_; clear hS; intro w hS
   refine sv (yMove rfl) ?_
   refine sg rfl rfl rfl (fun g => (fa61_3 rfl)) (fun v34 g34 => ?_)
   refine sg rfl rfl rfl (fun g => (yLdB (g34.1 g) isAgg59 (hS.at _) rfl)) (fun v35 g35 => ?_)
   refine sgc hS rfl rfl rfl call105 (fun g => (.cons (g35.1 g) (.cons rfl .nil))) (fun g => (c_ContainsRow (p := fun l => outB l.length 1 200) (cl := []) (hM.ext RRow.stays hS.ext) call106 (fun x x0 w hx e hR => c_foreS1 hR))) ?_; clear hS; intro v36 w hS g36
   refine sv (yOr rfl rfl (fun hB => (g36.1 hB))) <| sv (yAsg rfl) <| nil <| cwQ ?_
   refine cond rfl (fun c28 => ?_) (fun c28 => ?_)
   ·
    refine seq <| region <| sv (yAsg rfl) <| nil <| cwQ ?_
    refine wp_ret (blockR (thenR ?_))
    exact retV (res1 rfl (eqI (by unfold fE; rw [if_neg (by rw [c11]; decide), if_neg (by rw [c19]; decide), if_pos (show longM (fct t.fcs i) = true from c28)]))) hS.ext
   ·
    have hlm : longM (fct t.fcs i) = false := c28
    obtain ⟨hm1, hm2⟩ := longM_ok hlm
    refine seq <| region <| sv (fa61_3 rfl) <| sv (yLdB rfl isAgg59 (hS.at _) rfl) <| sv (yFn (.cons rfl .nil)) ?_
    refine scV hS call105 (.cons rfl (.cons rfl .nil)) (c_ContainsRow (p := fun l => decide ((l.length : Int) ≠ ((fct t.fcs i).members.getD 0 []).length)) (cl := [ptQ b5]) (hM.ext RRow.stays hS.ext) call107 (fun x x0 w hx e hR => c_foreS2 hR (hM.ext RRow.stays (hS.ext.trans e)) (by omega) (e.get (hS.at b5)))) ?_; clear hS; intro w hS
    refine sv (yAsg rfl) <| nil <| cwQ ?_
    refine cond rfl (fun c38 => ?_) (fun c38 => ?_)
    ·
     refine seq <| region <| sv (yAsg rfl) <| nil <| cwQ ?_
     refine wp_ret (blockR (thenR ?_))
     exact retV (res1 rfl (eqI (by unfold fE; rw [if_neg (by rw [c11]; decide), if_neg (by rw [c19]; decide), if_neg (by rw [show longM (fct t.fcs i) = false from c28]; decide), if_pos (show sameM (fct t.fcs i) = true from c38)]))) hS.ext
    ·
     refine seq <| region <| sv (fa61_3 rfl) <| sv (yLdB rfl isAgg59 (hS.at _) rfl) ?_
     refine scall call109 (.cons rfl .nil) (c_ConcatI (hM.ext RRow.stays hS.ext) hm1.2 (fun l hl => (hm2 l hl).2)) ?_
     rintro fv w hM2; replace hS := hS.call1 hM2; clear hM2
     refine scV hS call108 (.cons rfl (.cons rfl .nil)) (c_ContainsFuncInt (l := (fct t.fcs i).members.flatten) (p := fun v => outB v (-10000) 10000) (cl := []) (sl_ints (hS.row fv) rfl (flat_I64 (hM.ext RRow.stays hS.ext))) call110 (fun x cs w _ _ _ => c_foreS3)) ?_; clear hS; intro w hS
     refine sv (yAsg rfl) <| nil <| cwQ ?_
     refine cond rfl (fun c43 => ?_) (fun c43 => ?_)
     ·
      refine seq <| region <| sv (yAsg rfl) <| nil <| cwQ ?_
      refine wp_ret (blockR (thenR ?_))
      exact retV (res1 rfl (eqI (by unfold fE; rw [if_neg (by rw [c11]; decide), if_neg (by rw [c19]; decide), if_neg (by rw [show longM (fct t.fcs i) = false from c28]; decide), if_neg (by rw [show sameM (fct t.fcs i) = false from c38]; decide), if_pos (show farM (fct t.fcs i) = true from c43)]))) hS.ext
     ·
      refine seq <| region <| sv (fa29_6 rfl) <| sv (yLdB rfl isAgg27 (hS.at _) rfl) <| sv (yMove rfl) <| sv (yTo rfl rfl underlying27 sizeOf61 (by omega)) <| sv (yFn (.cons rfl .nil)) ?_
      refine scV hS call111 (.cons rfl (.cons rfl .nil)) (c_ContainsFct (l := t.fcs.take i) (p := fun x => decide (x.centre = (fct t.fcs i).centre) && decide (x.issued = (fct t.fcs i).issued)) (cl := [ptQ b5]) ((hF.take (by omega)).ext RFct.stays hS.ext) call112 (fun x cs w hx e hR => c_foreS4 hR (e.get (hS.at b5)))) ?_; clear hS; intro w hS
      refine sv (yAsg rfl) <| nil <| cwQ ?_
      refine cond rfl (fun c48 => ?_) (fun c48 => ?_)
      ·
       refine seq <| region <| sv (yAsg rfl) <| nil <| cwQ ?_
       refine wp_ret (blockR (thenR ?_))
       exact retV (res1 rfl (eqI (by unfold fE; rw [if_neg (by rw [c11]; decide), if_neg (by rw [c19]; decide), if_neg (by rw [show longM (fct t.fcs i) = false from c28]; decide), if_neg (by rw [show sameM (fct t.fcs i) = false from c38]; decide), if_neg (by rw [show farM (fct t.fcs i) = false from c43]; decide), if_pos (show twiceF t.fcs i = true from c48)]))) hS.ext
      ·
       refine skip <| cwQ <| seq <| region <| sv (yAsg rfl) <| nil <| cwQ <| wp_ret ?_
       exact retV (res1 rfl (eqI (by unfold fE; rw [if_neg (by rw [c11]; decide), if_neg (by rw [c19]; decide), if_neg (by rw [show longM (fct t.fcs i) = false from c28]; decide), if_neg (by rw [show sameM (fct t.fcs i) = false from c38]; decide), if_neg (by rw [show farM (fct t.fcs i) = false from c43]; decide), if_neg (by rw [show twiceF t.fcs i = false from c48]; decide)]))) hS.ext
set_option maxHeartbeats 2000000 in
theorem c_CheckS {t : Sgt} {cs : List Value} {w0 : World} (h : RSgt w0 cs t) : CV Tryz.prog 17 #[.agg cs.toArray] w0 (.tuple #[.int .i64 (checkS t).1, .int .i64 (checkS t).2.1, .int .i64 (checkS t).2.2]) := by
 obtain ⟨cv, gv, tv, fv, rfl, hT, hG, hw64, hf64, hk64, hC, hF, hl64, hm64, hr64, hq64⟩ := id h
 obtain ⟨ag, cg, rfl, hgcap, hgmx, hgel⟩ := id hG
 obtain ⟨ak, ck, rfl, hkcap, hkmx, hkel⟩ := id hC
 obtain ⟨ae, ce, rfl, hecap, hemx, heel⟩ := id hF
 refine enter func17 rfl ntmps17 rfl ?_
 have hS := St.start w0
 refine seq <| region ?_
 refine sbox hS rfl rfl ?_; clear hS; intro b1 w hS
 refine sv (yAsg rfl) <| sv (yAsg rfl) <| sv (yAsg rfl) <| nil <| cwQ <| seq <| seq <| region <| sv (fa29_4 rfl) ?_
 refine sv (yLdB rfl isAgg3 (hS.at _) rfl) ?_
 refine scV hS call53 (.cons rfl (.cons rfl (.cons rfl .nil))) c_outS ?_; clear hS; intro w hS
 refine nil <| cwQ ?_
 refine cond rfl (fun c9 => ?_) (fun c9 => ?_)
 ·
  refine seq <| region <| sv (yAsg rfl) <| sv (yAsg rfl) <| sv (yAsg rfl) <| nil <| cwQ ?_
  have hfin : checkS t = (1, 0, 7) := by unfold checkS; rw [if_pos c9]
  refine wp_ret (thenR ?_)
  exact retV (res3 rfl (fstI hfin) (thd1I hfin) (thd2I hfin)) hS.ext
 ·
  refine skip <| cwQ <| seq <| seq <| region <| sv (fa29_0 rfl) <| sv (yLdBA rfl isAgg24 sizeOf24 (hS.at _) rfl rfl) <| sv (fa29_3 rfl) <| sv (yLdB rfl isAgg3 (hS.at _) rfl) ?_
  refine sv (fa29_4 rfl) <| sv (yLdB rfl isAgg3 (hS.at _) rfl) ?_
  refine scall call54 (.cons rfl (.cons rfl (.cons rfl .nil))) (c_Levels (hT.ext hS.ext)) ?_
  rintro _ w ⟨lvv, rfl, hM⟩; replace hS := (hS.call1 hM).sub (.cons _ lrQ); clear hM
  refine sv (yMove rfl) <| sv (yExt rfl rfl) <| sv (yExt rfl rfl) <| sv (yAsg rfl) <| nil <| cwQ <| seq <| region <| sv (yMove rfl) ?_
  refine sv (yNeq rfl rfl) <| nil <| cwQ ?_
  refine cond rfl (fun c21 => ?_) (fun c21 => ?_)
  ·
   simp only [BS, ne_eq] at c21
   refine seq <| region <| sv (yMove rfl) <| sv (yAsg rfl) <| sv (yAsg rfl) <| sv (yAsg rfl) <| nil <| cwQ ?_
   have hfin : checkS t = (1, 0, levelsE t.table t.frm t.ticks) := by unfold checkS; rw [if_neg (by rw [c9]; decide), if_pos c21]
   refine wp_ret (thenR ?_)
   exact retV (res3 rfl (fstI hfin) (thd1I hfin) (thd2I hfin)) hS.ext
  ·
   simp only [BS, ne_eq] at c21
   refine skip <| cwQ <| seq <| seq <| region <| sv (yLdBA rfl isAgg29 sizeOf29 (hS.at _) rfl rfl) ?_
   refine scV hS call55 (.cons rfl .nil) (c_gausS (h.ext hS.ext)) ?_; clear hS; intro w hS
   refine sv (yMove rfl) <| sv (yExt rfl rfl) <| sv (yExt rfl rfl) <| sv (yAsg rfl) <| sv (yAsg rfl) <| nil <| cwQ <| seq <| region ?_
   refine sv (yMove rfl) <| sv (yNeq rfl rfl) <| nil <| cwQ ?_
   refine cond rfl (fun c29 => ?_) (fun c29 => ?_)
   ·
    simp only [BS, ne_eq] at c29
    refine seq <| region <| sv (yMove rfl) <| sv (yMove rfl) <| sv (yAsg rfl) <| sv (yAsg rfl) <| sv (yAsg rfl) <| nil <| cwQ ?_
    have hfin : checkS t = (2, gausE t) := by unfold checkS; rw [if_neg (by rw [c9]; decide), if_neg (fun k => k c21), if_pos c29]
    refine wp_ret (thenR ?_)
    exact retV (res3 rfl (fstI hfin) (thd1I hfin) (thd2I hfin)) hS.ext
   ·
    simp only [BS, ne_eq] at c29
    refine skip <| cwQ <| seq <| block <| seq <| region <| sv (fa29_5 rfl) <| sv (yLdB rfl isAgg26 (hS.at _) rfl) <| sv (yLen rfl underlying26) ?_
    refine sv (yGtr rfl rfl) <| sv (yMove rfl) ?_
    refine sg rfl rfl rfl (fun g => (fa29_6 rfl)) (fun v38 g38 => ?_)
    refine sg rfl rfl rfl (fun g => (yLdB (g38.1 g) isAgg27 (hS.at _) rfl)) (fun v39 g39 => ?_)
    refine sg rfl rfl rfl (fun g => (yLen (g39.1 g) underlying27)) (fun v40 g40 => ?_)
    refine sg rfl rfl rfl (fun g => (yGtr (g40.1 g) rfl)) (fun v41 g41 => ?_)
    refine sv (yOr rfl rfl (fun hB => (g41.1 hB))) <| sv (yAsg rfl) <| nil <| cwQ ?_
    refine cond rfl (fun c32 => ?_) (fun c32 => ?_)
    ·
     simp only [BS, ne_eq] at c32
     refine seq <| region <| sv (yAsg rfl) <| sv (yAsg rfl) <| sv (yAsg rfl) <| nil <| cwQ ?_
     have hfin : checkS t = (3, 0, 3) := by unfold checkS; rw [if_neg (by rw [c9]; decide), if_neg (fun k => k c21), if_neg (fun k => k c29), if_pos c32]
     refine wp_ret (blockR (thenR ?_))
     exact retV (res3 rfl (fstI hfin) (thd1I hfin) (thd2I hfin)) hS.ext
    ·
     simp only [BS, ne_eq] at c32
     refine seq <| region <| sv (fa29_7 rfl) <| sv (yLdB rfl isAgg3 (hS.at _) rfl) ?_
     refine scV hS call53 (.cons rfl (.cons rfl (.cons rfl .nil))) c_outS ?_; clear hS; intro w hS
     refine sv (yMove rfl) ?_
     refine sg rfl rfl rfl (fun g => (fa29_8 rfl)) (fun v48 g48 => ?_)
     refine sg rfl rfl rfl (fun g => (yLdB (g48.1 g) isAgg3 (hS.at _) rfl)) (fun v49 g49 => ?_)
     refine sgc hS rfl rfl rfl call53 (fun g => (.cons (g49.1 g) (.cons rfl (.cons rfl .nil)))) (fun g => c_outS) ?_; clear hS; intro v50 w hS g50
     refine sv (yOr rfl rfl (fun hB => (g50.1 hB))) <| sv (yMove rfl) ?_
     refine sg rfl rfl rfl (fun g => (fa29_9 rfl)) (fun v53 g53 => ?_)
     refine sg rfl rfl rfl (fun g => (yLdB (g53.1 g) isAgg3 (hS.at _) rfl)) (fun v54 g54 => ?_)
     refine sgc hS rfl rfl rfl call53 (fun g => (.cons (g54.1 g) (.cons rfl (.cons rfl .nil)))) (fun g => c_outS) ?_; clear hS; intro v55 w hS g55
     refine sv (yOr rfl rfl (fun hB => (g55.1 hB))) <| sv (yMove rfl) ?_
     refine sg rfl rfl rfl (fun g => (fa29_10 rfl)) (fun v58 g58 => ?_)
     refine sg rfl rfl rfl (fun g => (yLdB (g58.1 g) isAgg3 (hS.at _) rfl)) (fun v59 g59 => ?_)
     refine sg rfl rfl rfl (fun g => (fa29_5 rfl)) (fun v60 g60 => ?_)
     refine sg rfl rfl rfl (fun g => (yLdB (g60.1 g) isAgg26 (hS.at _) rfl)) (fun v61 g61 => ?_)
     refine sg rfl rfl rfl (fun g => (yLen (g61.1 g) underlying26)) (fun v62 g62 => ?_)
     refine sgc hS rfl rfl rfl call53 (fun g => (.cons (g59.1 g) (.cons rfl (.cons (g62.1 g) .nil)))) (fun g => c_outS) ?_; clear hS; intro v63 w hS g63
     refine sv (yOr rfl rfl (fun hB => (g63.1 hB))) <| sv (yAsg rfl) <| nil <| cwQ ?_
     refine cond rfl (fun c43 => ?_) (fun c43 => ?_)
     ·
      refine seq <| region <| sv (yAsg rfl) <| sv (yAsg rfl) <| sv (yAsg rfl) <| nil <| cwQ ?_
      have hfin : checkS t = (3, 0, 7) := by unfold checkS; rw [if_neg (by rw [c9]; decide), if_neg (fun k => k c21), if_neg (fun k => k c29), if_neg (fun k => k.elim c32.1 c32.2), if_pos (show numsS t = true from c43)]
      refine wp_ret (blockR (thenR ?_))
      exact retV (res3 rfl (fstI hfin) (thd1I hfin) (thd2I hfin)) hS.ext
     ·
      refine skip <| cwQ <| seq <| seq <| region <| sv (fa29_5 rfl) <| sv (yLdB rfl isAgg26 (hS.at _) rfl) <| sv (yLen rfl underlying26) <| sv (yMove rfl) ?_
      refine nil <| cwQ <| block <| loop (fun f w zz => ∃ (k : Nat), f 1 = ptQ b1 ∧ f 66 = .slice ak t.ctrs.length ck ∧ f 67 = .int .i64 (t.ctrs.length : Int) ∧ f 68 = .int .i64 (k : Int) ∧ StX [] w0 w [blk b1 (scQ t cv ag ak ae cg ck ce) 29] ∧ (k ≤ t.ctrs.length) ∧ (firstN (cE t.ctrs) t.ctrs.length 0 = firstN (cE t.ctrs) (t.ctrs.length - k) k) ∧ zz = t.ctrs.length - k) _ ⟨_, rfl, 0, rfl, rfl, rfl, rfl, hS, (Nat.zero_le _), (rfl), rfl⟩ ?_
      clear hS
      rintro f w _ ⟨k, h1, h66, h67, h68, hS, hk, hI, rfl⟩
      refine seq <| region <| sv (yLss h68 h67) <| nil <| cwQ <| seq ?_
      refine cond rfl (fun c69 => ?_) (fun c69 => ?_)
      ·
       simp only [BS, ne_eq] at c69
       refine skip <| cwQ <| seq <| block <| seq <| region <| sv (yMove h68) <| sv (yAsg rfl) <| nil ?_
       refine cwQ <| seq <| region <| sv (yLdBA h1 isAgg29 sizeOf29 (hS.at _) rfl rfl) <| sv (yMove rfl) ?_
       refine scV hS call56 (.cons rfl (.cons rfl .nil)) (c_centS (h.ext hS.ext) (by omega)) ?_; clear hS; intro w hS
       refine sv (yAsg rfl) <| nil <| cwQ <| seq <| region <| sv (yMove rfl) <| sv (yNeq rfl rfl) <| nil <| cwQ ?_
       refine cond rfl (fun c75 => ?_) (fun c75 => ?_)
       ·
        simp only [BS, ne_eq] at c75
        refine seq <| region <| sv (yMove rfl) <| sv (yMove rfl) <| sv (yAsg rfl) <| sv (yAsg rfl) <| sv (yAsg rfl) <| nil <| cwQ ?_
        have hN : firstN (cE t.ctrs) t.ctrs.length 0 = ((k : Int), cE t.ctrs k) := by rw [hI, firstN_at (by omega) c75]
        have hfin : checkS t = (4, (k : Int), cE t.ctrs k) := by unfold checkS; rw [if_neg (by rw [c9]; decide), if_neg (fun k => k c21), if_neg (fun k => k c29), if_neg (fun k => k.elim c32.1 c32.2), if_neg (by rw [show numsS t = false from c43]; decide), if_pos (by rw [hN]; exact c75), hN]
        refine wp_ret (blockR (thenR (thenR (blockR (thenR ?_)))))
        exact retV (res3 rfl (fstI hfin) (thd1I hfin) (thd2I hfin)) hS.ext
       ·
        simp only [BS, ne_eq] at c75
        refine skip <| cwQ <| region <| sv (yAdd h68 rfl ⟨by omega, by omega⟩) <| sv (yMove rfl) <| nil ?_
        exact ⟨_, _, rfl, ⟨k + 1, h1, h66, h67, rfl, hS, (by omega), (by rw [hI]; exact firstN_go (by omega) c75), rfl⟩, by omega⟩
      ·
       simp only [BS, ne_eq] at c69
       obtain rfl : k = t.ctrs.length := by omega
       have hec : (firstN (cE t.ctrs) t.ctrs.length 0).2 = 0 := by rw [hI, Nat.sub_self]; rfl
       clear hI
       refine exit <| cwQ <| seq <| seq <| region <| sv (fa29_6 h1) <| sv (yLdB rfl isAgg27 (hS.at _) rfl) <| sv (yLen rfl underlying27) <| sv (yMove rfl) ?_
       refine nil <| cwQ <| block <| loop (fun f w zz => ∃ (k : Nat), f 1 = ptQ b1 ∧ f 80 = .slice ae t.fcs.length ce ∧ f 81 = .int .i64 (t.fcs.length : Int) ∧ f 82 = .int .i64 (k : Int) ∧ StX [] w0 w [blk b1 (scQ t cv ag ak ae cg ck ce) 29] ∧ (k ≤ t.fcs.length) ∧ (firstN (fE t.ctrs.length t.fcs) t.fcs.length 0 = firstN (fE t.ctrs.length t.fcs) (t.fcs.length - k) k) ∧ zz = t.fcs.length - k) _ ⟨_, rfl, 0, h1, rfl, rfl, rfl, hS, (Nat.zero_le _), (rfl), rfl⟩ ?_
       clear hS
       rintro f w _ ⟨k, h1, h80, h81, h82, hS, hk, hI, rfl⟩
       refine seq <| region <| sv (yLss h82 h81) <| nil <| cwQ <| seq ?_
       refine cond rfl (fun c83 => ?_) (fun c83 => ?_)
       ·
        simp only [BS, ne_eq] at c83
        refine skip <| cwQ <| seq <| block <| seq <| region <| sv (yMove h82) <| sv (yAsg rfl) <| nil ?_
        refine cwQ <| seq <| region <| sv (yLdBA h1 isAgg29 sizeOf29 (hS.at _) rfl rfl) <| sv (yMove rfl) ?_
        refine scV hS call57 (.cons rfl (.cons rfl .nil)) (c_foreS (h.ext hS.ext) (by omega)) ?_; clear hS; intro w hS
        refine sv (yAsg rfl) <| nil <| cwQ <| seq <| region <| sv (yMove rfl) <| sv (yNeq rfl rfl) <| nil <| cwQ ?_
        refine cond rfl (fun c89 => ?_) (fun c89 => ?_)
        ·
         simp only [BS, ne_eq] at c89
         refine seq <| region <| sv (yMove rfl) <| sv (yMove rfl) <| sv (yAsg rfl) <| sv (yAsg rfl) <| sv (yAsg rfl) <| nil <| cwQ ?_
         have hN : firstN (fE t.ctrs.length t.fcs) t.fcs.length 0 = ((k : Int), fE t.ctrs.length t.fcs k) := by rw [hI, firstN_at (by omega) c89]
         have hfin : checkS t = (5, (k : Int), fE t.ctrs.length t.fcs k) := by unfold checkS; rw [if_neg (by rw [c9]; decide), if_neg (fun k => k c21), if_neg (fun k => k c29), if_neg (fun k => k.elim c32.1 c32.2), if_neg (by rw [show numsS t = false from c43]; decide), if_neg (fun k => k hec), if_pos (by rw [hN]; exact c89), hN]
         refine wp_ret (blockR (thenR (thenR (blockR (thenR ?_)))))
         exact retV (res3 rfl (fstI hfin) (thd1I hfin) (thd2I hfin)) hS.ext
        ·
         simp only [BS, ne_eq] at c89
         refine skip <| cwQ <| region <| sv (yAdd h82 rfl ⟨by omega, by omega⟩) <| sv (yMove rfl) <| nil ?_
         exact ⟨_, _, rfl, ⟨k + 1, h1, h80, h81, rfl, hS, (by omega), (by rw [hI]; exact firstN_go (by omega) c89), rfl⟩, by omega⟩
       ·
        simp only [BS, ne_eq] at c83
        obtain rfl : k = t.fcs.length := by omega
        have hef : (firstN (fE t.ctrs.length t.fcs) t.fcs.length 0).2 = 0 := by rw [hI, Nat.sub_self]; rfl
        refine exit <| cwQ <| seq <| region <| sv (yAsg rfl) <| sv (yAsg rfl) <| sv (yAsg rfl) <| nil <| cwQ ?_
        have hfin : checkS t = (0, 0, 0) := by unfold checkS; rw [if_neg (by rw [c9]; decide), if_neg (fun k => k c21), if_neg (fun k => k c29), if_neg (fun k => k.elim c32.1 c32.2), if_neg (by rw [show numsS t = false from c43]; decide), if_neg (fun k => k hec), if_neg (fun k => k hef)]
        refine wp_ret ?_
        exact retV (res3 rfl (fstI hfin) (thd1I hfin) (thd2I hfin)) hS.ext
end Go.Proofs.YtgidbailiababaaGreatDoor

/- part Sw4 -/
namespace Go.Proofs.YtgidbailiababaaGreatDoor
open Go Bx Go.Proofs.Tryz
theorem c_Mul64 {k : Nat} {w0 : World} (hk : k ≤ 200) : CV Tryz.prog 199 #[.int .u64 1, .int .u64 (k : Int)] w0 (.tuple #[.int .u64 0, .int .u64 (k : Int)]) := by
 refine enter func199 rfl ntmps199 rfl ?_
 have hS := St.start w0
 refine seq <| region <| sv (yAsg rfl) <| sv (yAsg rfl) <| nil <| cwQ <| seq <| region <| sv (yMove rfl) ?_
 refine sv (yBin rfl rfl rfl and_1) <| sv (yAsg rfl) <| nil <| cwQ <| seq <| region <| sv (yMove rfl) <| sv (yShr32 rfl rfl (by decide)) <| sv (yAsg rfl) ?_
 refine nil <| cwQ <| seq <| region <| sv (yMove rfl) <| sv (yBin rfl rfl rfl (and_k hk)) <| sv (yAsg rfl) <| nil <| cwQ ?_
 refine seq <| region <| sv (yMove rfl) <| sv (yShr32 rfl rfl ⟨by omega, by omega⟩) <| sv (yAsg rfl) <| nil <| cwQ <| seq <| region ?_
 refine sv (yMove rfl) <| sv (yMove rfl) <| sv (yU (r := (k : Int)) rfl rfl (.inr ⟨rfl, by omega⟩) ⟨by omega, by omega⟩) <| sv (yAsg rfl) <| nil <| cwQ <| seq <| region <| sv (yMove rfl) ?_
 refine sv (yMove rfl) <| sv (yU (r := 0) rfl rfl (by first | (exact .inl ⟨rfl, by omega⟩) | (exact .inr ⟨rfl, by simp⟩)) ⟨by omega, by omega⟩) <| sv (yMove rfl) <| sv (yShr32 rfl rfl ⟨by omega, by omega⟩) <| sv (yU (r := 0) rfl rfl (by first | (exact .inl ⟨rfl, by omega⟩) | (exact .inr ⟨rfl, by simp⟩)) ⟨by omega, by omega⟩) <| sv (yAsg rfl) <| nil <| cwQ <| seq ?_
 refine region <| sv (yMove rfl) <| sv (yBin rfl rfl rfl and_0) <| sv (yAsg rfl) <| nil <| cwQ <| seq <| region <| sv (yMove rfl) ?_
 refine sv (yShr32 rfl rfl (by decide)) <| sv (yAsg rfl) <| nil <| cwQ <| seq <| region <| sv (yMove rfl) <| sv (yMove rfl) <| sv (yMove rfl) ?_
 refine sv (yU (r := 0) rfl rfl (by first | (exact .inl ⟨rfl, by omega⟩) | (exact .inr ⟨rfl, by simp⟩)) ⟨by omega, by omega⟩) <| sv (yU (r := 0) rfl rfl (by first | (exact .inl ⟨rfl, by omega⟩) | (exact .inr ⟨rfl, by simp⟩)) ⟨by omega, by omega⟩) <| sv (yAsg rfl) <| nil <| cwQ <| seq <| region <| sv (yMove rfl) <| sv (yMove rfl) ?_
 refine sv (yU (r := 0) rfl rfl (by first | (exact .inl ⟨rfl, by omega⟩) | (exact .inr ⟨rfl, by simp⟩)) ⟨by omega, by omega⟩) <| sv (yMove rfl) <| sv (yU (r := 0) rfl rfl (by first | (exact .inl ⟨rfl, by omega⟩) | (exact .inr ⟨rfl, by simp⟩)) ⟨by omega, by omega⟩) <| sv (yMove rfl) <| sv (yShr32 rfl rfl (by decide)) <| sv (yU (r := 0) rfl rfl (by first | (exact .inl ⟨rfl, by omega⟩) | (exact .inr ⟨rfl, by simp⟩)) ⟨by omega, by omega⟩) <| sv (yAsg rfl) <| nil <| cwQ ?_
 refine seq <| region <| sv (yMove rfl) <| sv (yMove rfl) <| sv (yU (r := (k : Int)) rfl rfl (.inr ⟨rfl, by omega⟩) ⟨by omega, by omega⟩) <| sv (yAsg rfl) <| nil <| cwQ <| wp_ret ?_
 exact retV (res2 rfl rfl rfl) hS.ext
theorem c_Mul {k : Nat} {w0 : World} (hk : k ≤ 200) : CV Tryz.prog 176 #[.int .u64 1, .int .u64 (k : Int)] w0 (.tuple #[.int .u64 0, .int .u64 (k : Int)]) := by
 refine enter func176 rfl ntmps176 rfl ?_
 have hS := St.start w0
 refine seq <| region <| sv (yAsg rfl) <| sv (yAsg rfl) <| nil <| cwQ <| seq ?_
 refine cond rfl (fun cK => ?_) (fun cK => ?_)
 ·
  cases cK
 ·
  refine skip <| cwQ <| seq <| region <| sv (yMove rfl) <| sv (yMove rfl) ?_
  refine scV hS call199 (.cons rfl (.cons rfl .nil)) (c_Mul64 hk) ?_; clear hS; intro w hS
  refine sv (yMove rfl) <| sv (yExt rfl rfl) <| sv (yExt rfl rfl) <| sv (yAsg rfl) <| sv (yAsg rfl) <| nil <| cwQ <| seq <| region ?_
  refine sv (yMove rfl) <| sv (yMove rfl) <| sv (yAsg rfl) <| sv (yAsg rfl) <| nil <| cwQ <| wp_ret ?_
  exact retV (res2 rfl rfl rfl) hS.ext
set_option maxHeartbeats 1000000 in
theorem c_RepeatS {k b : Nat} {s : Span} {w0 : World} (hk : k ≤ 200) (hb : w0.heap[b]? = some (.cells (spanC s).toArray 74 (0, 0))) : CE Tryz.prog 140 #[.slice (some ⟨b, 0, none⟩) 1 1, .int .i64 (k : Int)] w0 (fun u w' => St w0 w' [rowI u 74 2 k ((List.replicate k s).flatMap spanC)]) := by
 refine enter func140 rfl ntmps140 rfl ?_
 have hS := St.start w0
 refine seq <| region <| sv (yAsg rfl) <| nil <| cwQ <| seq <| seq <| region <| sv (yMove rfl) ?_
 refine sv (yLss rfl rfl) <| nil <| cwQ ?_
 refine cond rfl (fun c10 => ?_) (fun c10 => ?_)
 ·
  simp only [BS, ne_eq] at c10
  exfalso; omega
 ·
  simp only [BS, ne_eq] at c10
  refine skip <| cwQ <| seq <| region <| sv (yMove rfl) <| sv (yLen rfl underlying121) <| sv (yToU rfl underlying3 underlying218 ⟨by omega, by omega⟩) <| sv (yMove rfl) <| sv (yToU rfl underlying3 underlying218 ⟨by omega, by omega⟩) ?_
  refine scV hS call176 (.cons rfl (.cons rfl .nil)) (c_Mul hk) ?_; clear hS; intro w hS
  refine sv (yMove rfl) <| sv (yExt rfl rfl) <| sv (yExt rfl rfl) <| sv (yAsg rfl) <| sv (yAsg rfl) <| nil <| cwQ <| seq <| seq ?_
  refine region <| sv (yMove rfl) <| sv (yGtr rfl rfl) <| sv (yMove rfl) ?_
  refine sg rfl rfl rfl (fun g => (yMove rfl)) (fun v24 g24 => ?_)
  refine sg rfl rfl rfl (fun g => (yGtr (g24.1 g) rfl)) (fun v25 g25 => ?_)
  refine sv (yOr rfl rfl (fun hB => (g25.1 hB))) <| nil <| cwQ ?_
  refine cond rfl (fun c26 => ?_) (fun c26 => ?_)
  ·
   simp only [BS, ne_eq] at c26
   exfalso; omega
  ·
   simp only [BS, ne_eq] at c26
   refine skip <| cwQ <| seq <| region <| sv (yMove rfl) <| sv (yToI rfl underlying218 underlying3 ⟨by omega, by omega⟩) ?_
   refine smake (bytes := 16) (zs := [.int .i64 0, .int .i64 0]) (m := k) hS rfl rfl underlying121 ti74 rfl rfl rfl rfl rfl (by omega) (by omega) ?_; clear hS; intro b30 w hS
   refine sv (yAsg rfl) <| nil <| cwQ <| seq <| region ?_
   rw [repS_zero s] at hS
   refine sv (yMove rfl) <| sv (yMove rfl) ?_
   refine scopyK (m := min 1 k) (news := (List.replicate (min 1 k) s).flatMap spanC) hS rfl rfl underlying121 sizeOf74 rfl (by rw [flat_len spanC_len, List.length_replicate]) (rep_src (l := [s]) (hS.ext.get hb) (take_min1 s k)) (by rw [flat_len spanC_len, flat_len spanC_len, repS_len (Nat.zero_le _), List.length_replicate]; omega) (rep_one _ _) ?_; clear hS; intro w hS; rw [show (0 : Nat) = 0 * 2 from rfl, repS_copy (by omega), Nat.zero_add] at hS
   refine sv (yAsg rfl) <| nil <| cwQ <| seq <| block <| loop (fun f w zz => ∃ (j : Nat), f 7 = .slice (some ⟨b30, 0, none⟩) k k ∧ f 8 = .int .i64 (j : Int) ∧ StX [] w0 w [blk b30 ((repS s j k).flatMap spanC) 74] ∧ (j ≤ k ∧ (k = 0 ∨ 1 ≤ j)) ∧ zz = k - j) _ ⟨_, rfl, min 1 k, rfl, rfl, hS, (⟨by omega, by omega⟩), rfl⟩ ?_
   clear hS
   rintro f w _ ⟨j, h7, h8, hS, hj, rfl⟩
   refine seq <| seq <| region <| sv (yMove h8) <| sv (yMove h7) <| sv (yLen rfl underlying121) <| sv (yLss rfl rfl) <| nil <| cwQ ?_
   refine cond rfl (fun c37 => ?_) (fun c37 => ?_)
   ·
    simp only [BS, ne_eq] at c37
    refine skip <| cwQ <| block <| region_mix (fun w => StX [] w0 w []) 10 mixed hS ?_
    clear hS; intro w hS
    refine fsQ 0 rfl (fun w hS => (yMove h8)) <| fsQ 1 rfl (fun w hS => (yMove h7)) <| fsQ 2 rfl (fun w hS => (yMove h8)) <| fsQ 3 rfl (fun w hS => (yTailLt rfl rfl underlying121 sizeOf74 (by omega) (by omega))) <| fsQ 4 rfl (fun w hS => (yMove h7)) <| fsQ 5 rfl (fun w hS => (yMove h8)) <| fsQ 6 rfl (fun w hS => (yHead ⟨_, rfl⟩ rfl rfl underlying121 sizeOf74 (by omega))) <| awQ <| a1Q 7 (by kernel_rfl) rfl ?_
    refine scopyK (m := min j (k - j)) (news := (List.replicate (min j (k - j)) s).flatMap spanC) hS rfl rfl underlying121 sizeOf74 rfl (by rw [flat_len spanC_len, List.length_replicate]) (rep_src (hS.at b30) (repS_take (by omega))) (by rw [flat_len spanC_len, flat_len spanC_len, repS_len hj.1, List.length_replicate]; omega) (rep_one _ _) ?_; clear hS; intro w hS; rw [repS_copy (by omega)] at hS
    refine nil <| kpQ <| awQ <| fsQ 8 rfl (fun w hS => (Y.to (yAdd rfl rfl ⟨by omega, by omega⟩) rfl)) <| fsQ 9 rfl (fun w hS => (yAsg rfl)) <| a_end (by kernel_rfl) ?_
    exact ⟨_, _, rfl, ⟨j + min j (k - j), h7, rfl, hS, (⟨by omega, by omega⟩), rfl⟩, by omega⟩
   ·
    simp only [BS, ne_eq] at c37
    refine exit <| cwQ <| seq <| region <| sv (yMove h7) <| sv (yAsg rfl) <| nil <| cwQ <| wp_ret ?_
    refine retQ (res1 rfl rfl) ?_
    obtain rfl : j = k := by omega
    rw [repS_full] at hS
    exact hS.toRow 2 j (by rw [flat_len spanC_len, List.length_replicate]) (by omega)
theorem c_CloneS {l : List Span} {a : Option Addr} {cap nn : Nat} {w0 : World} (hsl : Sl w0 2 RSpan (.slice a nn cap) l) (hn : l.length = nn) (hlen : nn ≤ 1000) : CE Tryz.prog 120 #[.slice a nn cap] w0 (fun u w' => St w0 w' [rowI u 74 2 nn (l.flatMap spanC)]) := by
 subst hn
 refine enter func120 rfl ntmps120 rfl ?_
 have hS := St.start w0
 refine seq <| region <| sv (yAsg rfl) <| nil <| cwQ <| seq <| seq <| region <| sv (yMove rfl) ?_
 refine sv (yEqNil rfl rfl underlying121) <| nil <| cwQ ?_
 refine cond rfl (fun c4 => ?_) (fun c4 => ?_)
 ·
  obtain rfl : a = none := by cases a with | none => rfl | some _ => cases c4
  obtain rfl := sl_nil_of hsl
  refine seq <| region <| sv (yAsg rfl) <| nil <| cwQ ?_
  refine wp_ret (thenR ?_)
  refine retQ (res1 rfl rfl) ?_
  exact hS.nilrow 74 2
 ·
  refine skip <| cwQ <| seq <| region ?_
  refine sbslice0 hS underlying121 sizeOf74 ?_; clear hS; intro b5 w hS
  refine sv (yMove rfl) ?_
  refine sappS (bytes := 16) (size := 2) hS rfl rfl underlying121 ti74 rfl rfl rfl rfl (by decide) sizeOf74 (fun hh => by obtain ⟨bd, od, e1, e2⟩ := spans_news hsl hh; exact ⟨bd, od, e1, e2.ext hS.ext⟩) (by rw [flat_len spanC_len]) (spans_one l) (by omega) (by omega) ?_; clear hS; intro v7 w hS; rw [Nat.zero_add, List.nil_append] at hS
  refine sv (yAsg rfl) <| nil <| cwQ <| wp_ret <| retQ (res1 rfl rfl) ?_
  exact hS
theorem c_IndexSp {l : List Span} {p : Span → Bool} {v : Value} {g : Nat} {cl : List Value} {w0 : World} (hsl : Sl w0 2 RSpan v l) (hcall : ∀ ys w, (callFunc g ys).run Tryz.prog w = .ok (.enter g ys) w) (hp : ∀ x w, x ∈ l → Ext w0 w → CV Tryz.prog g (.agg (spanC x).toArray :: cl).toArray w (.bool (p x))) : CV Tryz.prog 180 #[v, .func (.func g) #[] cl.toArray] w0 (.int .i64 (idxF p l 0)) := by
 obtain ⟨a, cap, rfl, hcap, hmx, hel⟩ := hsl
 refine enter func180 rfl ntmps180 rfl ?_
 have hS := St.start w0
 refine seq <| region <| sv (yAsg rfl) <| nil <| cwQ <| seq <| seq <| region <| sv (yMove rfl) ?_
 refine sv (yLen rfl underlying121) <| sv (yMove rfl) <| nil <| cwQ <| block <| loop (fun f w zz => ∃ (k : Nat), f 0 = .slice a l.length cap ∧ f 1 = .func (.func g) #[] cl.toArray ∧ f 7 = .int .i64 (l.length : Int) ∧ f 8 = .int .i64 (k : Int) ∧ StX [] w0 w [] ∧ (k ≤ l.length) ∧ (idxF p l 0 = idxF p (l.drop k) k) ∧ zz = l.length - k) _ ⟨_, rfl, 0, rfl, rfl, rfl, rfl, hS, (Nat.zero_le _), (rfl), rfl⟩ ?_
 clear hS
 rintro f w _ ⟨k, h0, h1, h7, h8, hS, hk, hI, rfl⟩
 refine seq <| region <| sv (yLss h8 h7) <| nil <| cwQ <| seq ?_
 refine cond rfl (fun c9 => ?_) (fun c9 => ?_)
 ·
  simp only [BS, ne_eq] at c9
  refine skip <| cwQ <| seq <| block <| seq <| region <| sv (yMove h8) <| sv (yAsg rfl) <| nil ?_
  refine cwQ <| seq <| region ?_
  obtain ⟨x, hx, hd⟩ := drop_of (l := l) (k := k) (by omega)
  obtain ⟨b, o, cs, ha, hlen, hcs, hR⟩ := hel k (by omega)
  obtain rfl : x = l[k] := (List.getElem?_eq_some_iff.1 hx).2.symm
  obtain ⟨rfl, -⟩ := hR
  refine sv (yMove h1) <| sv (yMove h0) <| sv (yMove rfl) <| sv (yIxQ rfl ha rfl runUnderlying121 sizeOf74) <| sv (yLdA rfl isAgg74 sizeOf74 (hcs.ext hS.ext) rfl) ?_
  refine scallf rfl hcall (.cons rfl .nil) (hp _ _ (List.getElem_mem _) hS.ext) ?_
  rintro _ w ⟨rfl, hE⟩; replace hS := hS.step hE; clear hE
  refine nil <| cwQ ?_
  refine cond rfl (fun c16 => ?_) (fun c16 => ?_)
  ·
   refine seq <| region <| sv (yMove rfl) <| sv (yAsg rfl) <| nil <| cwQ ?_
   refine wp_ret (blockR (thenR (thenR (blockR (thenR ?_)))))
   exact retV (res1 rfl (by rw [hI, hd, idxF, if_pos c16]; rfl)) hS.ext
  ·
   refine skip <| cwQ <| region <| sv (yAdd h8 rfl ⟨by omega, by omega⟩) <| sv (yMove rfl) <| nil ?_
   exact ⟨_, _, rfl, ⟨k + 1, h0, h1, h7, rfl, hS, (by omega), (by rw [hI, hd, idxF, if_neg (by simp [c16])]; rfl), rfl⟩, by omega⟩
 ·
  simp only [BS, ne_eq] at c9
  refine exit <| cwQ <| seq <| region <| sv (yAsg rfl) <| nil <| cwQ ?_
  obtain rfl : k = l.length := by omega
  refine wp_ret ?_
  exact retV (res1 rfl (by rw [hI, List.drop_length]; rfl)) hS.ext
theorem c_ContainsSp {l : List Span} {p : Span → Bool} {v : Value} {g : Nat} {cl : List Value} {w0 : World} (hsl : Sl w0 2 RSpan v l) (hcall : ∀ ys w, (callFunc g ys).run Tryz.prog w = .ok (.enter g ys) w) (hp : ∀ x w, x ∈ l → Ext w0 w → CV Tryz.prog g (.agg (spanC x).toArray :: cl).toArray w (.bool (p x))) : CV Tryz.prog 143 #[v, .func (.func g) #[] cl.toArray] w0 (.bool (l.any p)) := by
 refine enter func143 rfl ntmps143 rfl ?_
 have hS := St.start w0
 refine seq <| region <| sv (yAsg rfl) <| nil <| cwQ <| seq <| region <| sv (yMove rfl) <| sv (yMove rfl) ?_
 refine scV hS call180 (.cons rfl (.cons rfl .nil)) (c_IndexSp hsl hcall hp) ?_; clear hS; intro w hS
 refine sv (yGeq rfl rfl) <| sv (yAsg rfl) <| nil <| cwQ <| wp_ret ?_
 exact retV (res1 rfl (by rw [← idxF_any p l 0 (Int.le_refl 0)]; rfl)) hS.ext
theorem c_empty1 {x : Span} {w0 : World} : CV Tryz.prog 144 #[.agg (spanC x).toArray] w0 (.bool (decide (x.hi < x.lo))) := by
 refine enter func144 rfl ntmps144 rfl ?_
 have hS := St.start w0
 refine seq <| region ?_
 refine sbox hS rfl rfl ?_; clear hS; intro b1 w hS
 refine sv (yAsg rfl) <| nil <| cwQ <| seq <| region <| sv (fa74_0 rfl) <| sv (yLdB rfl isAgg3 (hS.at _) rfl) <| sv (fa74_1 rfl) <| sv (yLdB rfl isAgg3 (hS.at _) rfl) ?_
 refine sv (yGtr rfl rfl) <| sv (yAsg rfl) <| nil <| cwQ <| wp_ret ?_
 exact retV (res1 rfl rfl) hS.ext
theorem c_emptyS {l : List Span} {v : Value} {w0 : World} (hsl : Sl w0 2 RSpan v l) : CV Tryz.prog 92 #[v] w0 (.bool (emptyS l)) := by
 refine enter func92 rfl ntmps92 rfl ?_
 have hS := St.start w0
 refine seq <| region <| sv (yAsg rfl) <| nil <| cwQ <| seq <| region <| sv (yMove rfl) ?_
 refine scV hS call143 (.cons rfl (.cons rfl .nil)) (c_ContainsSp (p := fun x => decide (x.hi < x.lo)) (cl := []) (hsl.ext RSpan.stays hS.ext) call144 (fun x w hx e => c_empty1)) ?_; clear hS; intro w hS
 refine sv (yAsg rfl) <| nil <| cwQ <| wp_ret ?_
 exact retV (res1 rfl rfl) hS.ext
end Go.Proofs.YtgidbailiababaaGreatDoor

/- part Sw5 -/
namespace Go.Proofs.YtgidbailiababaaGreatDoor
open Go Bx Go.Proofs.Tryz
set_option maxHeartbeats 1000000 in
theorem c_meetS {ss os : List Span} {g cap o m capS nn : Nat} {ov : Value} {w0 w : World} {L9 : List Bx.Item} (hS : StX [] w0 w (rowI (.slice (some ⟨g, 0, none⟩) nn cap) 74 2 nn ((ss).flatMap spanC) :: L9)) (ho : ∀ (q : List Span) w', StX [] w0 w' (rowI (.slice (some ⟨g, 0, none⟩) nn cap) 74 2 nn ((q).flatMap spanC) :: L9) → Sl w' 2 RSpan ov os) (hl : os.length ≤ m) (hn : ss.length = nn) (hm : o + m ≤ nn) (hmx : m ≤ 9223372036854775807) : CE Tryz.prog 82 #[.slice (some ⟨g, o * 2, none⟩) m capS, ov] w (fun u w' => u = .tuple #[] ∧ StX [] w0 w' (rowI (.slice (some ⟨g, 0, none⟩) nn cap) 74 2 nn ((meetK ss os o os.length).flatMap spanC) :: L9)) := by
 obtain ⟨ao, co, rfl, hocap, homx, -⟩ := id (ho ss w hS)
 refine enter func82 rfl ntmps82 rfl ?_
 skip
 refine seq <| region <| sv (yMove rfl) <| sv (yLen rfl underlying121) <| sv (yMove rfl) <| nil <| cwQ <| block <| loop (fun f w zz => ∃ (k : Nat), f 0 = .slice (some ⟨g, o * 2, none⟩) m capS ∧ f 6 = .slice ao os.length co ∧ f 7 = .int .i64 (os.length : Int) ∧ f 8 = .int .i64 (k : Int) ∧ StX [] w0 w ((rowI (.slice (some ⟨g, 0, none⟩) nn cap) 74 2 nn ((meetK ss os o k).flatMap spanC) :: L9)) ∧ (k ≤ os.length) ∧ zz = os.length - k) _ ⟨_, rfl, 0, rfl, rfl, rfl, rfl, hS, (Nat.zero_le _), rfl⟩ ?_
 clear hS
 rintro f w _ ⟨k, h0, h6, h7, h8, hS, hk, rfl⟩
 refine seq <| region <| sv (yLss h8 h7) <| nil <| cwQ <| seq ?_
 refine cond rfl (fun c9 => ?_) (fun c9 => ?_)
 ·
  simp only [BS, ne_eq] at c9
  have hkl : k < os.length := by omega
  obtain ⟨bx, ox, cx, hax, hlx, hcx, hRx, -⟩ := sl_at (ho _ w hS) (spn_get (l := os) hkl)
  obtain ⟨rfl, -⟩ := hRx
  refine skip <| cwQ <| seq <| block <| seq <| region <| sv (yMove h8) <| sv (yIxQ h6 hax h8 runUnderlying121 sizeOf74) <| sv (yLdA rfl isAgg74 sizeOf74 hcx rfl) ?_
  refine salloc hS zeroValue74 rfl ?_; clear hS; intro b5 w hS
  refine sv (yAsg rfl) ?_
  refine sst hS rfl rfl sizeOf74 rfl rfl rfl rfl ?_; clear hS; intro w hS
  refine nil <| cwQ <| region_mix (fun w => StX [] w0 w (blk b5 (spanC (spn os k)) 74 :: rowI (.slice (some ⟨g, 0, none⟩) nn cap) 74 2 nn ((meetK ss os o k).flatMap spanC) :: L9)) 20 mixed hS ?_
  clear hS; intro w hS
  refine fsQ 0 rfl (fun w hS => (yMove h0)) <| fsQ 1 rfl (fun w hS => (yMove rfl)) <| fsQ 2 rfl (fun w hS => (yMove h0)) <| fsQ 3 rfl (fun w hS => (yMove rfl)) <| fsQ 4 rfl (fun w hS => (Y.to (yIxQ rfl rfl rfl runUnderlying121 sizeOf74) (congrArg (fun q => Value.pointer (some ⟨g, q, none⟩)) (show o * 2 + k * 2 = (o + k) * 2 by omega)))) <| fsQ 5 rfl (fun w hS => (fa74_0 rfl)) ?_
  refine fsQ 6 rfl (fun w hS => (yLd rfl isAgg3 ((flat_cells0 (enc := spanC) spanC_len (row_at (hS.row (.slice (some ⟨g, 0, none⟩) nn cap)) rfl (by omega)) (spn_get (l := meetK ss os o k) (i := o + k) (by rw [meetK_len]; omega))).at (j := 0) rfl))) ?_
  refine fsQ 7 rfl (fun w hS => (fa74_0 rfl)) <| fsQ 8 rfl (fun w hS => (yLdB rfl isAgg3 (hS.at _) rfl)) <| fsQ 9 rfl (fun w hS => (yMax rfl rfl)) <| fsQ 10 rfl (fun w hS => (yMove h0)) <| fsQ 11 rfl (fun w hS => (yMove rfl)) <| fsQ 12 rfl (fun w hS => (Y.to (yIxQ rfl rfl rfl runUnderlying121 sizeOf74) (congrArg (fun q => Value.pointer (some ⟨g, q, none⟩)) (show o * 2 + k * 2 = (o + k) * 2 by omega)))) <| fsQ 13 rfl (fun w hS => (fa74_1 rfl)) ?_
  refine fsQ 14 rfl (fun w hS => (yLd rfl isAgg3 ((flat_cells0 (enc := spanC) spanC_len (row_at (hS.row (.slice (some ⟨g, 0, none⟩) nn cap)) rfl (by omega)) (spn_get (l := meetK ss os o k) (i := o + k) (by rw [meetK_len]; omega))).at (j := 1) rfl))) ?_
  refine fsQ 15 rfl (fun w hS => (fa74_1 rfl)) <| fsQ 16 rfl (fun w hS => (yLdB rfl isAgg3 (hS.at _) rfl)) <| fsQ 17 rfl (fun w hS => (yMin rfl rfl)) <| fsQ 18 rfl (fun w hS => (yBuild zeroValue74 rfl pl74 (.cons rfl rfl (.cons rfl rfl .nil)) rfl)) <| fsQ 19 rfl (fun w hS => (Y.to (yIxQ rfl rfl rfl runUnderlying121 sizeOf74) (congrArg (fun q => Value.pointer (some ⟨g, q, none⟩)) (show o * 2 + k * 2 = (o + k) * 2 by omega)))) <| awQ <| a1Q 20 (by kernel_rfl) rfl ?_
  refine srst (m := nn) (cap := cap) (sz := 2) (vs := spanC (cutS (spn (meetK ss os o k) (o + k)) (spn os k))) hS rfl rfl sizeOf74 rfl rfl (by omega) rfl ?_; clear hS; intro w hS
  rw [splice_enc spanC_len _ _ _ (by rw [meetK_len]; omega)] at hS
  refine nil ?_
  refine ⟨fun h => absurd h (by decide), ?_⟩
  refine awQ <| a_end (by kernel_rfl) <| cwQ <| region <| sv (yAdd h8 rfl ⟨by omega, by omega⟩) <| sv (yMove rfl) <| nil ?_
  exact ⟨_, _, rfl, ⟨k + 1, h0, h6, h7, rfl, (hS.sub (.cons _ lrQ)), (by omega), rfl⟩, by omega⟩
 ·
  simp only [BS, ne_eq] at c9
  obtain rfl : k = os.length := by omega
  refine exit <| thenOut <| thenOut <| blockIn ?_
  show bodyPost _ _ _ .normal _ _
  refine retN (results_none rfl _ _ _) ?_
  exact ⟨rfl, hS⟩
set_option maxHeartbeats 1000000 in
theorem c_tight1 {ss : List Span} {g cap b2 b3 i k m : Nat} {r : Int} {w0 w : World} {L9 : List Bx.Item} (hS : StX [] w0 w (rowI (.slice (some ⟨g, 0, none⟩) m cap) 74 2 m ((ss).flatMap spanC) :: blk b2 [.slice (some ⟨g, 0, none⟩) m cap] 121 :: blk b3 [.int .i64 r] 3 :: L9)) (hl : ss.length = m) (hi : i < m) (hk : k < m) (hmx : m ≤ 9223372036854775807) (hb : SBd 40000000 (spn ss k)) (hr : 0 ≤ r ∧ r ≤ 5000) : CE Tryz.prog 141 #[.int .i64 (i : Int), .int .i64 (k : Int), ptQ b2, ptQ b3] w (fun u w' => u = .tuple #[] ∧ StX [] w0 w' (rowI (.slice (some ⟨g, 0, none⟩) m cap) 74 2 m ((ss.set i (nearS r (spn ss i) (spn ss k))).flatMap spanC) :: blk b2 [.slice (some ⟨g, 0, none⟩) m cap] 121 :: blk b3 [.int .i64 r] 3 :: L9)) := by
 unfold SBd at hb
 refine enter func141 rfl ntmps141 rfl ?_
 skip
 refine region_mix (fun w => StX [] w0 w (rowI (.slice (some ⟨g, 0, none⟩) m cap) 74 2 m ((ss).flatMap spanC) :: blk b2 [.slice (some ⟨g, 0, none⟩) m cap] 121 :: blk b3 [.int .i64 r] 3 :: L9)) 30 mixed hS ?_
 clear hS; intro w hS
 refine fsQ 0 rfl (fun w hS => (yLdB rfl isAgg121 (hS.at b2) rfl)) <| fsQ 1 rfl (fun w hS => (yMove rfl)) <| fsQ 2 rfl (fun w hS => (yLdB rfl isAgg121 (hS.at b2) rfl)) <| fsQ 3 rfl (fun w hS => (yMove rfl)) <| fsQ 4 rfl (fun w hS => (yIx0 (m := i) rfl rfl runUnderlying121 sizeOf74 (by omega))) <| fsQ 5 rfl (fun w hS => (fa74_0 rfl)) <| fsQ 6 rfl (fun w hS => (yLd rfl isAgg3 ((flat_cells0 (enc := spanC) spanC_len (row_at (hS.row (.slice (some ⟨g, 0, none⟩) m cap)) rfl (by omega)) (spn_get (l := ss) (i := i) (by omega))).at (j := 0) rfl))) <| fsQ 7 rfl (fun w hS => (yLdB rfl isAgg121 (hS.at b2) rfl)) <| fsQ 8 rfl (fun w hS => (yMove rfl)) ?_
 refine fsQ 9 rfl (fun w hS => (yIx0 (m := k) rfl rfl runUnderlying121 sizeOf74 (by omega))) <| fsQ 10 rfl (fun w hS => (fa74_0 rfl)) <| fsQ 11 rfl (fun w hS => (yLd rfl isAgg3 ((flat_cells0 (enc := spanC) spanC_len (row_at (hS.row (.slice (some ⟨g, 0, none⟩) m cap)) rfl (by omega)) (spn_get (l := ss) (i := k) (by omega))).at (j := 0) rfl))) <| fsQ 12 rfl (fun w hS => (yLdB rfl isAgg3 (hS.at b3) rfl)) <| fsQ 13 rfl (fun w hS => (ySub rfl rfl ⟨by omega, by omega⟩)) <| fsQ 14 rfl (fun w hS => (yMax rfl rfl)) <| fsQ 15 rfl (fun w hS => (yLdB rfl isAgg121 (hS.at b2) rfl)) <| fsQ 16 rfl (fun w hS => (yMove rfl)) <| fsQ 17 rfl (fun w hS => (yIx0 (m := i) rfl rfl runUnderlying121 sizeOf74 (by omega))) ?_
 refine fsQ 18 rfl (fun w hS => (fa74_1 rfl)) <| fsQ 19 rfl (fun w hS => (yLd rfl isAgg3 ((flat_cells0 (enc := spanC) spanC_len (row_at (hS.row (.slice (some ⟨g, 0, none⟩) m cap)) rfl (by omega)) (spn_get (l := ss) (i := i) (by omega))).at (j := 1) rfl))) <| fsQ 20 rfl (fun w hS => (yLdB rfl isAgg121 (hS.at b2) rfl)) <| fsQ 21 rfl (fun w hS => (yMove rfl)) <| fsQ 22 rfl (fun w hS => (yIx0 (m := k) rfl rfl runUnderlying121 sizeOf74 (by omega))) <| fsQ 23 rfl (fun w hS => (fa74_1 rfl)) <| fsQ 24 rfl (fun w hS => (yLd rfl isAgg3 ((flat_cells0 (enc := spanC) spanC_len (row_at (hS.row (.slice (some ⟨g, 0, none⟩) m cap)) rfl (by omega)) (spn_get (l := ss) (i := k) (by omega))).at (j := 1) rfl))) <| fsQ 25 rfl (fun w hS => (yLdB rfl isAgg3 (hS.at b3) rfl)) <| fsQ 26 rfl (fun w hS => (yAdd rfl rfl ⟨by omega, by omega⟩)) ?_
 refine fsQ 27 rfl (fun w hS => (yMin rfl rfl)) <| fsQ 28 rfl (fun w hS => (yBuild zeroValue74 rfl pl74 (.cons rfl rfl (.cons rfl rfl .nil)) rfl)) <| fsQ 29 rfl (fun w hS => (yIx0 (m := i) rfl rfl runUnderlying121 sizeOf74 (by omega))) <| awQ <| a1Q 30 (by kernel_rfl) rfl ?_
 refine srst (m := m) (cap := cap) (sz := 2) (vs := spanC (nearS r (spn ss i) (spn ss k))) hS rfl rfl sizeOf74 rfl rfl (by omega) rfl ?_; clear hS; intro w hS
 rw [splice_enc spanC_len _ _ _ (by omega)] at hS
 refine nil ?_
 refine ⟨fun h => absurd h (by decide), ?_⟩
 refine awQ <| a_end (by kernel_rfl) ?_
 show bodyPost _ _ _ .normal _ _
 refine retN (results_none rfl _ _ _) ?_
 exact ⟨rfl, hS⟩
set_option maxHeartbeats 1000000 in
theorem c_tighten {l : List Span} {g cap : Nat} {r : Int} {w0 w : World} {L9 : List Bx.Item} (hS : StX [] w0 w (rowI (.slice (some ⟨g, 0, none⟩) l.length cap) 74 2 l.length ((l).flatMap spanC) :: L9)) (hmx : l.length ≤ 1000) (hlb : LBd 40000000 l) (hr : 0 ≤ r ∧ r ≤ 5000) : CE Tryz.prog 84 #[.slice (some ⟨g, 0, none⟩) l.length cap, .int .i64 r] w (fun u w' => u = .bool (someT r l) ∧ ∃ q : List Span, (someT r l = true → q = tightS r l) ∧ StX [] w0 w' (rowI (.slice (some ⟨g, 0, none⟩) l.length cap) 74 2 l.length ((q).flatMap spanC) :: L9)) := by
 refine enter func84 rfl ntmps84 rfl ?_
 skip
 refine seq <| region ?_
 refine sbox hS rfl rfl ?_; clear hS; intro b2 w hS
 refine sbox hS rfl rfl ?_; clear hS; intro b3 w hS
 refine sv (yAsg rfl) <| nil <| cwQ <| seq <| seq <| region ?_
 replace hS := hS.perm (tight_perm _ _ _ _)
 refine sv (yLdB rfl isAgg121 (hS.at _) rfl) ?_
 refine scV hS call92 (.cons rfl .nil) (c_emptyS (sl_spans (hS.row (.slice (some ⟨g, 0, none⟩) l.length cap)) rfl (lbd_i64 hlb))) ?_; clear hS; intro w hS
 refine nil <| cwQ ?_
 refine cond rfl (fun c9 => ?_) (fun c9 => ?_)
 ·
  have hst : someT r l = false := by unfold someT; rw [c9]; rfl
  refine seq <| region <| sv (yAsg rfl) <| nil <| cwQ ?_
  refine wp_ret (thenR ?_)
  refine retQ (res1 rfl rfl) ?_
  exact ⟨by rw [hst]; rfl, l, (fun k => by rw [hst] at k; cases k), hS.sub (.cons_cons _ (.cons _ (.cons _ lrQ)))⟩
 ·
  have hpos : 0 < l.length ∨ l.length = 0 := by omega
  refine skip <| cwQ <| seq <| region <| sv (yFn (.cons rfl (.cons rfl .nil))) <| sv (yAsg rfl) <| nil <| cwQ <| seq ?_
  refine seq <| region <| sv (yAsg rfl) <| nil <| cwQ <| block ?_
  refine loop (fun f w zz => ∃ (i : Nat), f 2 = ptQ b2 ∧ f 3 = ptQ b3 ∧ f 5 = .func (.func 141) #[] #[ptQ b2, ptQ b3] ∧ f 6 = .int .i64 (i : Int) ∧ StX [] w0 w ((rowI (.slice (some ⟨g, 0, none⟩) l.length cap) 74 2 l.length ((fwL r l i).flatMap spanC) :: blk b2 [.slice (some ⟨g, 0, none⟩) l.length cap] 121 :: blk b3 [.int .i64 r] 3 :: L9)) ∧ (1 ≤ i ∧ (i ≤ l.length ∨ i = 1)) ∧ zz = l.length - i) _ ⟨_, rfl, 1, rfl, rfl, rfl, rfl, (by rw [fwL_1]; exact hS), (⟨Nat.le_refl _, .inr rfl⟩), rfl⟩ ?_
  clear hS
  rintro f w _ ⟨i, h2, h3, h5, h6, hS, hi, rfl⟩
  refine seq <| seq <| region <| sv (yMove h6) <| sv (yLdB h2 isAgg121 (hS.at _) rfl) <| sv (yLen rfl underlying121) <| sv (yLss rfl rfl) <| nil <| cwQ ?_
  refine cond rfl (fun c14 => ?_) (fun c14 => ?_)
  ·
   simp only [BS, ne_eq] at c14
   have hbd := fwL_sbd hr.1 hlb i
   refine skip <| cwQ <| seq <| block <| region <| sv (yMove h5) <| sv (yMove h6) <| sv (yMove h6) <| sv (Y.to (ySub rfl rfl ⟨by omega, by omega⟩) (congrArg (Value.int .i64) (show (i : Int) - 1 = ((i - 1 : Nat) : Int) by omega))) ?_
   refine scallf rfl call141 (.cons rfl (.cons rfl .nil)) (c_tight1 (i := i) (k := (i - 1)) hS (fwL_len ..) (by omega) (by omega) (by omega) (hbd _ (by rw [fwL_len]; omega)) hr) ?_
   rintro _ w ⟨rfl, hM⟩; clear hS; have hS := hM; clear hM
   refine nil <| cwQ <| region <| sv (yMove h6) <| sv (yAdd rfl rfl ⟨by omega, by omega⟩) <| sv (yAsg rfl) <| nil ?_
   exact ⟨_, _, rfl, ⟨i + 1, h2, h3, h5, rfl, (by rw [fwL_succ hi.1 (by omega)]; exact hS), (⟨by omega, .inl (by omega)⟩), rfl⟩, by omega⟩
  ·
   simp only [BS, ne_eq] at c14
   have hfe : fwL r l i = bwL r l 0 := fwL_end (by omega) hi.1
   rw [hfe] at hS
   refine exit <| cwQ <| seq <| seq <| region <| sv (yLdB h2 isAgg121 (hS.at _) rfl) <| sv (yLen rfl underlying121) <| sv (ySub rfl rfl ⟨by omega, by omega⟩) <| sv (yAsg rfl) ?_
   refine nil <| cwQ <| block <| loop (fun f w zz => ∃ (m : Nat), f 2 = ptQ b2 ∧ f 3 = ptQ b3 ∧ f 5 = .func (.func 141) #[] #[ptQ b2, ptQ b3] ∧ f 7 = .int .i64 ((l.length : Int) - 2 - (m : Int)) ∧ StX [] w0 w ((rowI (.slice (some ⟨g, 0, none⟩) l.length cap) 74 2 l.length ((bwL r l m).flatMap spanC) :: blk b2 [.slice (some ⟨g, 0, none⟩) l.length cap] 121 :: blk b3 [.int .i64 r] 3 :: L9)) ∧ (m + 1 ≤ l.length ∨ m = 0) ∧ zz = l.length - m) _ ⟨_, rfl, 0, h2, h3, h5, (rfl.trans (congrArg (Value.int .i64) (by omega))), hS, (.inr rfl), rfl⟩ ?_
   clear hS
   rintro f w _ ⟨m, h2, h3, h5, h7, hS, hm, rfl⟩
   refine seq <| seq <| region <| sv (yMove h7) <| sv (yGeq rfl rfl) <| nil <| cwQ ?_
   refine cond rfl (fun c26 => ?_) (fun c26 => ?_)
   ·
    simp only [BS, ne_eq] at c26
    have hbd := bwL_sbd hr.1 hlb m
    refine skip <| cwQ <| seq <| block <| region <| sv (yMove h5) <| sv (Y.to (yMove h7) (congrArg (Value.int .i64) (show (l.length : Int) - 2 - (m : Int) = ((l.length - 1 - (m + 1) : Nat) : Int) by omega))) <| sv (yMove h7) <| sv (Y.to (yAdd rfl rfl ⟨by omega, by omega⟩) (congrArg (Value.int .i64) (show (l.length : Int) - 2 - (m : Int) + 1 = ((l.length - 1 - m : Nat) : Int) by omega))) ?_
    refine scallf rfl call141 (.cons rfl (.cons rfl .nil)) (c_tight1 (i := (l.length - 1 - (m + 1))) (k := (l.length - 1 - m)) hS (bwL_len ..) (by omega) (by omega) (by omega) (hbd _ (by rw [bwL_len]; omega)) hr) ?_
    rintro _ w ⟨rfl, hM⟩; clear hS; have hS := hM; clear hM
    refine nil <| cwQ <| region <| sv (yMove h7) <| sv (ySub rfl rfl ⟨by omega, by omega⟩) <| sv (yAsg rfl) <| nil ?_
    exact ⟨_, _, rfl, ⟨m + 1, h2, h3, h5, (rfl.trans (congrArg (Value.int .i64) (by omega))), (by rw [bwL_succ (by omega)]; exact hS), (.inl (by omega)), rfl⟩, by omega⟩
   ·
    simp only [BS, ne_eq] at c26
    have hbe : bwL r l m = tightS r l := bwL_end (by omega)
    rw [hbe] at hS
    refine exit <| cwQ <| seq <| region <| sv (yLdB h2 isAgg121 (hS.at _) rfl) ?_
    refine scV hS call92 (.cons rfl .nil) (c_emptyS (sl_spans (by have := hS.row (.slice (some ⟨g, 0, none⟩) l.length cap); exact this) (tightS_len ..) (lbd_i64 (tight_sbd hr.1 hlb)))) ?_; clear hS; intro w hS
    refine sv (yNot rfl) <| sv (yAsg rfl) <| nil <| cwQ <| wp_ret <| retQ (res1 rfl rfl) ?_
    exact ⟨by unfold someT; rw [c9]; rfl, _, fun _ => rfl, hS.sub (.cons_cons _ (.cons _ (.cons _ lrQ)))⟩
end Go.Proofs.YtgidbailiababaaGreatDoor

/- part Sw6 -/
namespace Go.Proofs.YtgidbailiababaaGreatDoor
open Go Bx Go.Proofs.Tryz
set_option maxHeartbeats 1000000 in
theorem c_wrongS {t : Sgt} {now : Int} {ov : Value} {bk : Nat} {T : TypeId} {fo : Fct} {am : Option Addr} {cm : Nat} {tick : Int} {w0 : World} (hk : RKn w0 bk T t now ov) (hok : SgOk t) (hf : FctOk t.ctrs.length fo) (htk : Bd tick 0 200000) : CV Tryz.prog 90 #[ptQ bk, .agg [.int .i64 fo.centre, .int .i64 fo.issued, .int .i64 fo.frm, .slice am fo.members.length cm].toArray, .int .i64 tick] w0 (.int .i64 (wrongS t fo tick)) := by
 obtain ⟨cv, ag, cg, ak, ck, ae, ce, aw, cw, ax, cx, hkb, hT, hG, hC, hF, hW, hX⟩ := id hk
 obtain ⟨g1, g2, g3, g4⟩ := wrong_bd hok hf htk
 have hcen := hf.centre
 have hiss := hf.issued
 have hcb := (hok.ctrs (i := fo.centre.toNat) (by omega)).base
 obtain ⟨bq, oq, cq, haq, hlq, hcq, hRq, -⟩ := sl_at hC (ctr_get (show fo.centre.toNat < t.ctrs.length by omega))
 obtain ⟨rfl, hnm, -⟩ := hRq
 refine enter func90 rfl ntmps90 rfl ?_
 have hS := St.start w0
 refine seq <| region ?_
 refine sbox hS rfl rfl ?_; clear hS; intro b4 w hS
 refine sv (yAsg rfl) <| nil <| cwQ <| seq <| region_mix (fun w => StX [] w0 w (blk b4 [.int .i64 fo.centre, .int .i64 fo.issued, .int .i64 fo.frm, .slice am fo.members.length cm] 61 :: [])) 11 mixed hS ?_
 clear hS; intro w hS
 refine fsQ 0 rfl (fun w hS => (yMove rfl)) <| fsQ 1 rfl (fun w hS => (yNil rfl)) <| fsQ 2 rfl (fun w hS => (fa123_0 rfl)) <| fsQ 3 rfl (fun w hS => (fa29_5 rfl)) <| fsQ 4 rfl (fun w hS => (yLdB rfl isAgg26 (hS.ext.get hkb) rfl)) <| fsQ 5 rfl (fun w hS => (fa61_0 rfl)) <| fsQ 6 rfl (fun w hS => (yLdB rfl isAgg3 (hS.at _) rfl)) <| fsQ 7 rfl (fun w hS => (yIxQ rfl haq (rfl.trans (congrArg (Value.int .i64) (show fo.centre = ((fo.centre.toNat : Nat) : Int) by omega))) runUnderlying26 sizeOf57)) <| fsQ 8 rfl (fun w hS => (yLdA rfl isAgg57 sizeOf57 (hcq.ext hS.ext) rfl)) ?_
 refine awQ <| a1Q 9 (by kernel_rfl) rfl ?_
 refine salloc hS zeroValue57 rfl ?_; clear hS; intro b7 w hS
 refine nil <| kpQ <| awQ <| awQ <| a1Q 10 (by kernel_rfl) rfl ?_
 refine sst hS rfl rfl sizeOf57 rfl rfl rfl rfl ?_; clear hS; intro w hS
 refine nil <| kpQ <| awQ <| a_end (by kernel_rfl) <| cwQ <| seq <| region <| sv (yAsg rfl) <| nil ?_
 refine cwQ ?_
 refine seqJ (n := 36) (fun f w => f 7 = ptQ b7 ∧ f 8 = .int .i64 (hourS fo tick) ∧ StX [] w0 w [blk b7 (ctrC (ctr t.ctrs fo.centre.toNat)) 57, blk b4 [.int .i64 fo.centre, .int .i64 fo.issued, .int .i64 fo.frm, .slice am fo.members.length cm] 61] ∧ True) ?_ ?_
 ·
  refine seq <| region <| sv (yMove rfl) <| sv (fa61_1 rfl) <| sv (yLdB rfl isAgg3 (hS.at _) rfl) <| sv (yGtr rfl rfl) <| nil <| cwQ ?_
  refine cond rfl (fun c21 => ?_) (fun c21 => ?_)
  ·
   simp only [BS, ne_eq] at c21
   refine region <| sv (yMove rfl) <| sv (fa61_1 rfl) <| sv (yLdB rfl isAgg3 (hS.at _) rfl) <| sv (ySub rfl rfl ⟨by omega, by omega⟩) <| sv (yAdd rfl rfl ⟨by omega, by omega⟩) <| sv (ySub rfl rfl ⟨by omega, by omega⟩) <| sv (yQuoP rfl rfl ⟨by omega, by omega⟩ (by omega)) <| sv (yAsg rfl) ?_
   refine nil ?_
   exact ⟨_, rfl, rfl, (rfl.trans (congrArg (Value.int .i64) (by unfold hourS; rw [if_pos (show fo.issued < tick from c21)]; congr 1; omega))), hS, trivial⟩
  ·
   simp only [BS, ne_eq] at c21
   refine skip ?_
   exact ⟨_, rfl, rfl, (rfl.trans (congrArg (Value.int .i64) (by unfold hourS; rw [if_neg (show ¬ fo.issued < tick from c21)]))), hS, trivial⟩
 ·
  clear hS; rintro f w ⟨h7, h8, hS, -⟩
  refine seq <| region <| sv (fa57_2 h7) <| sv (yLdB rfl isAgg3 (hS.at _) rfl) <| sv (fa57_3 h7) <| sv (yLdB rfl isAgg3 (hS.at _) rfl) <| sv (yMove h8) <| sv (yMul rfl rfl ⟨by omega, by omega⟩) <| sv (yAdd rfl rfl ⟨by omega, by omega⟩) ?_
  refine sv (yAsg rfl) <| nil <| cwQ <| wp_ret ?_
  exact retV (res1 rfl rfl) hS.ext
set_option maxHeartbeats 2000000 in
theorem c_tubeS {m : Nat} {t : Sgt} {now : Int} {ov : Value} {bk : Nat} {T : TypeId} {fo : Fct} {am : Option Addr} {cm : Nat} {w0 : World} (hkn : RKn w0 bk T t now ov) (hok : SgOk t) (hg : Glb w0) (hf : FctOk t.ctrs.length fo) (hm : m < fo.members.length) (hM : Sl w0 1 RRow (.slice am fo.members.length cm) fo.members) : CE Tryz.prog 83 #[ptQ bk, .agg [.int .i64 fo.centre, .int .i64 fo.issued, .int .i64 fo.frm, .slice am fo.members.length cm].toArray, .int .i64 (m : Int)] w0 (fun u w' => St w0 w' [rowI (u) 74 2 t.ticks.toNat ((tubeS t fo (mem fo m)).flatMap spanC)]) := by
 obtain ⟨cv, ag, cg, ak, ck, ae, ce, aw, cw, ax, cx, hkb, hT, hG, hC, hF, hW, hX⟩ := id hkn
 have htk := hok.tk
 have hlev := hok.levs.2
 have hff := hf.frm
 have hml := hf.len _ (mem_in hm)
 obtain ⟨bm, om, cm2, ham, hlm, hcm, hRm, -⟩ := sl_at hM (show fo.members[m]? = some (mem fo m) by simp [mem, hm])
 obtain ⟨mv0, rfl, hms⟩ := hRm
 obtain ⟨a0, c0, rfl, h0cap, h0mx, -⟩ := id hms
 refine enter func83 rfl ntmps83 rfl ?_
 have hS := St.start w0
 refine seq <| region ?_
 refine sbox hS rfl rfl ?_; clear hS; intro b4 w hS
 refine sv (yAsg rfl) <| nil <| cwQ <| seq <| region_mix (fun w => StX [] w0 w (blk b4 [.int .i64 fo.centre, .int .i64 fo.issued, .int .i64 fo.frm, .slice am fo.members.length cm] 61 :: [])) 9 mixed hS ?_
 clear hS; intro w hS
 refine fsQ 0 rfl (fun w hS => (yLdA rfl isAgg74 sizeOf74 (hg.ext hS.ext) rfl)) <| fsQ 2 rfl (fun w hS => (yMove rfl)) <| fsQ 3 rfl (fun w hS => (yNil rfl)) <| fsQ 4 rfl (fun w hS => (fa123_0 rfl)) <| fsQ 5 rfl (fun w hS => (fa29_4 rfl)) <| fsQ 6 rfl (fun w hS => (Y.to (yLdB rfl isAgg3 (hS.ext.get hkb) rfl) (congrArg (Value.int .i64) (show t.ticks = ((t.ticks.toNat : Nat) : Int) by omega)))) <| awQ <| a1Q 1 (by kernel_rfl) rfl ?_
 refine sbslice hS underlying121 sizeOf74 rfl zeroValue74 rfl (.cons rfl rfl .nil) rfl ?_; clear hS; intro b13 w hS
 refine nil <| kpQ <| awQ <| awQ <| a1Q 7 (by kernel_rfl) rfl ?_
 refine scall call140 (.cons rfl (.cons rfl .nil)) (c_RepeatS (k := t.ticks.toNat) (s := ⟨-20000, 20000⟩) (by omega) (hS.at b13)) ?_
 rintro tv w hM2; replace hS := hS.call1 hM2; clear hM2
 obtain ⟨g7, cap7, rfl, -⟩ := row_some (hS.row tv) (by omega)
 refine nil <| kpQ <| awQ <| fsQ 8 rfl (fun w hS => (yAsg rfl)) <| a_end (by kernel_rfl) <| cwQ <| seq <| seq <| region ?_
 refine sv (fa61_3 rfl) <| sv (yLdB rfl isAgg59 (hS.at _) rfl) <| sv (yMove rfl) <| sv (yIxQ rfl ham rfl runUnderlying59 sizeOf39) <| sv (yLd rfl isAgg39 (hcm.ext hS.ext).one) <| sv (yLen rfl underlying39) <| sv (yMove rfl) <| nil <| cwQ ?_
 refine block ?_
 refine loop (fun f w zz => ∃ (k : Nat), f 0 = ptQ bk ∧ f 4 = ptQ b4 ∧ f 7 = .slice (some ⟨g7, 0, none⟩) t.ticks.toNat cap7 ∧ f 24 = .slice a0 (mem fo m).length c0 ∧ f 25 = .int .i64 ((mem fo m).length : Int) ∧ f 26 = .int .i64 (k : Int) ∧ StX [] w0 w [rowI (.slice (some ⟨g7, 0, none⟩) t.ticks.toNat cap7) 74 2 t.ticks.toNat ((tubeS t fo ((mem fo m).take k)).flatMap spanC), blk b4 [.int .i64 fo.centre, .int .i64 fo.issued, .int .i64 fo.frm, .slice am fo.members.length cm] 61] ∧ (k ≤ (mem fo m).length) ∧ zz = (mem fo m).length - k) _ ⟨_, rfl, 0, rfl, rfl, rfl, rfl, rfl, rfl, (by rw [List.take_zero, tube_0]; exact hS.sub (.cons_cons _ (.cons _ lrQ))), (Nat.zero_le _), rfl⟩ ?_
 clear hS
 rintro f w _ ⟨k, h0, h4, h7, h24, h25, h26, hS, hk, rfl⟩
 refine seq <| region <| sv (yLss h26 h25) <| nil <| cwQ <| seq ?_
 refine cond rfl (fun c27 => ?_) (fun c27 => ?_)
 ·
  simp only [BS, ne_eq] at c27
  have hkl : k < (mem fo m).length := by omega
  obtain ⟨bx, ox, cx2, hax, hlx, hcx, hRx, -⟩ := sl_at hms (show (mem fo m)[k]? = some ((mem fo m).getD k 0) by simp [hkl])
  obtain ⟨rfl, -⟩ := hRx
  have hvb := mem_val hf hm hkl
  refine skip <| cwQ <| seq <| block <| seq <| region <| sv (yMove h26) <| sv (yIxQ h24 hax h26 runUnderlying39 sizeOf3) <| sv (yLd rfl isAgg3 (hcx.ext hS.ext).one) ?_
  refine sv (yAsg rfl) <| sv (yAsg rfl) <| nil <| cwQ <| seq <| region_draw mixed (by kernel_rfl) hS <| qv (fun w hS => (fa61_2 h4)) <| qv (fun w hS => (yLdB rfl isAgg3 (hS.at _) rfl)) <| qv (fun w hS => (yMove rfl)) ?_
  refine qv (fun w hS => (yAdd rfl rfl ⟨by omega, by omega⟩)) <| qv (fun w hS => (yMove h0)) <| qv (fun w hS => (yNil rfl)) <| qv (fun w hS => (fa123_0 rfl)) <| qv (fun w hS => (fa29_3 rfl)) <| qv (fun w hS => (yLdB rfl isAgg3 (hS.ext.get hkb) rfl)) <| qv (fun w hS => (ySub rfl rfl ⟨by omega, by omega⟩)) <| qv (fun w hS => (yAsg rfl)) ?_
  clear hS; refine qnil (fun w hS => ?_)
  refine cwQ <| seq <| seq <| region <| sv (yMove rfl) <| sv (yMove h0) <| sv (yNil rfl) <| sv (fa123_0 rfl) <| sv (fa29_4 rfl) ?_
  refine sv (yLdB rfl isAgg3 (hS.ext.get hkb) rfl) <| sv (ySub rfl rfl ⟨by omega, by omega⟩) ?_
  refine scV hS call53 (.cons rfl (.cons rfl (.cons rfl .nil))) c_outS ?_; clear hS; intro w hS
  refine nil <| cwQ ?_
  refine cond rfl (fun c48 => ?_) (fun c48 => ?_)
  ·
   have hout : ¬ (0 ≤ fo.frm + k - t.frm ∧ fo.frm + k - t.frm < t.ticks) := fun hh => by rw [outB_false.2 ⟨hh.1, by omega⟩] at c48; cases c48
   refine exit <| cwQ <| region <| sv (yAdd h26 rfl ⟨by omega, by omega⟩) <| sv (yMove rfl) <| nil ?_
   exact ⟨_, _, rfl, ⟨k + 1, h0, h4, h7, h24, h25, rfl, (by rw [tube_out hkl hout]; exact hS), (by omega), rfl⟩, by omega⟩
  ·
   have hin := outB_false.1 c48
   obtain ⟨i0, hi0⟩ : ∃ i0 : Nat, fo.frm + k - t.frm = i0 := ⟨_, (Int.toNat_of_nonneg hin.1).symm⟩
   have hib : i0 < t.ticks.toNat := by omega
   obtain ⟨bW, oW, cW, haW, hlW, hcW, hRW, -⟩ := sl_at hW (tidesS_get hib)
   obtain ⟨rfl, -⟩ := hRW
   have htd := tide_sbd hok i0
   unfold SBd at htd
   have hwb := wrong_bd hok hf (tick_at hok hib)
   refine skip <| cwQ <| seq <| region_draw mixed (by kernel_rfl) hS <| qv (fun w hS => (yMove h0)) <| qv (fun w hS => (yLdBA h4 isAgg61 sizeOf61 (hS.at _) rfl rfl)) <| qv (fun w hS => (yMove h0)) <| qv (fun w hS => (yNil rfl)) <| qv (fun w hS => (fa123_0 rfl)) ?_
   refine qv (fun w hS => (fa29_3 rfl)) <| qv (fun w hS => (yLdB rfl isAgg3 (hS.ext.get hkb) rfl)) <| qv (fun w hS => (yMove rfl)) <| qv (fun w hS => (Y.to (yAdd rfl rfl ⟨by omega, by omega⟩) (congrArg (Value.int .i64) (show t.frm + (fo.frm + k - t.frm) = t.frm + (i0 : Int) by omega)))) <| qcall call90 (.cons rfl (.cons rfl (.cons rfl .nil))) (fun w hS => (c_wrongS (hkn.ext hS.ext) hok hf (tick_at hok hib))) <| qv (fun w hS => (yAsg rfl)) ?_
   clear hS; refine qnil (fun w hS => ?_)
   refine cwQ <| region_mix (fun w => StX [] w0 w (rowI (.slice (some ⟨g7, 0, none⟩) t.ticks.toNat cap7) 74 2 t.ticks.toNat ((tubeS t fo ((mem fo m).take k)).flatMap spanC) :: blk b4 [.int .i64 fo.centre, .int .i64 fo.issued, .int .i64 fo.frm, .slice am fo.members.length cm] 61 :: [])) 28 mixed hS ?_
   clear hS; intro w hS
   refine fsQ 0 rfl (fun w hS => (yMove h7)) <| fsQ 1 rfl (fun w hS => (Y.to (yMove rfl) (congrArg (Value.int .i64) hi0))) <| fsQ 2 rfl (fun w hS => (yMove h0)) <| fsQ 3 rfl (fun w hS => (yNil rfl)) <| fsQ 4 rfl (fun w hS => (fa123_2 rfl)) <| fsQ 5 rfl (fun w hS => (yLdB rfl isAgg121 (hS.ext.get hkb) rfl)) <| fsQ 6 rfl (fun w hS => (Y.to (yMove rfl) (congrArg (Value.int .i64) hi0))) <| fsQ 7 rfl (fun w hS => (yIxQ rfl haW rfl runUnderlying121 sizeOf74)) <| fsQ 8 rfl (fun w hS => (fa74_0 rfl)) ?_
   refine fsQ 9 rfl (fun w hS => (yLd rfl isAgg3 ((hcW.ext hS.ext).at (j := 0) rfl))) <| fsQ 10 rfl (fun w hS => (yMove rfl)) <| fsQ 11 rfl (fun w hS => (yAdd rfl rfl ⟨by omega, by omega⟩)) <| fsQ 12 rfl (fun w hS => (yMove rfl)) <| fsQ 13 rfl (fun w hS => (ySub rfl rfl ⟨by omega, by omega⟩)) <| fsQ 14 rfl (fun w hS => (yMove h0)) <| fsQ 15 rfl (fun w hS => (yNil rfl)) <| fsQ 16 rfl (fun w hS => (fa123_2 rfl)) <| fsQ 17 rfl (fun w hS => (yLdB rfl isAgg121 (hS.ext.get hkb) rfl)) ?_
   refine fsQ 18 rfl (fun w hS => (Y.to (yMove rfl) (congrArg (Value.int .i64) hi0))) <| fsQ 19 rfl (fun w hS => (yIxQ rfl haW rfl runUnderlying121 sizeOf74)) <| fsQ 20 rfl (fun w hS => (fa74_1 rfl)) <| fsQ 21 rfl (fun w hS => (yLd rfl isAgg3 ((hcW.ext hS.ext).at (j := 1) rfl))) <| fsQ 22 rfl (fun w hS => (yMove rfl)) <| fsQ 23 rfl (fun w hS => (yAdd rfl rfl ⟨by omega, by omega⟩)) <| fsQ 24 rfl (fun w hS => (yMove rfl)) <| fsQ 25 rfl (fun w hS => (yAdd rfl rfl ⟨by omega, by omega⟩)) <| fsQ 26 rfl (fun w hS => (yBuild zeroValue74 rfl pl74 (.cons rfl rfl (.cons rfl rfl .nil)) rfl)) ?_
   refine fsQ 27 rfl (fun w hS => (yIx0 (m := i0) rfl rfl runUnderlying121 sizeOf74 (by omega))) <| awQ <| a1Q 28 (by kernel_rfl) rfl ?_
   refine srst (m := t.ticks.toNat) (cap := cap7) (sz := 2) (vs := spanC ⟨(tideS t i0).lo + (mem fo m).getD k 0 - wrongS t fo (t.frm + i0), (tideS t i0).hi + (mem fo m).getD k 0 + wrongS t fo (t.frm + i0)⟩) hS rfl rfl sizeOf74 rfl rfl (by omega) rfl ?_; clear hS; intro w hS
   rw [splice_enc spanC_len _ _ _ (by rw [tubeS_len]; omega)] at hS
   refine nil ?_
   refine ⟨fun h => absurd h (by decide), ?_⟩
   refine awQ <| a_end (by kernel_rfl) <| cwQ <| region <| sv (yAdd h26 rfl ⟨by omega, by omega⟩) <| sv (yMove rfl) <| nil ?_
   exact ⟨_, _, rfl, ⟨k + 1, h0, h4, h7, h24, h25, rfl, (by rw [tube_in hkl (by omega) hi0]; exact hS), (by omega), rfl⟩, by omega⟩
 ·
  simp only [BS, ne_eq] at c27
  obtain rfl : k = (mem fo m).length := by omega
  rw [List.take_length] at hS
  refine exit <| cwQ <| seq <| region <| sv (yMove h7) <| sv (yAsg rfl) <| nil <| cwQ <| wp_ret ?_
  refine retQ (res1 rfl rfl) ?_
  exact hS.sub (.cons_cons _ (List.nil_sublist _))
set_option maxHeartbeats 1000000 in
theorem c_needS {t : Sgt} {now : Int} {ov : Value} {bk : Nat} {T : TypeId} {w0 : World} (hk : RKn w0 bk T t now ov) (hok : SgOk t) : CV Tryz.prog 119 #[ptQ bk] w0 (.int .i64 (needS t now)) := by
 obtain ⟨cv, ag, cg, ak, ck, ae, ce, aw, cw, ax, cx, hkb, hT, hG, hC, hF, hW, hX⟩ := id hk
 have hcl := curS_len t now
 have hnc := hok.nc
 have hqm := hok.nums4.2.2.2
 refine enter func119 rfl ntmps119 rfl ?_
 have hS := St.start w0
 refine seq <| region <| sv (yAsg rfl) <| nil <| cwQ <| seq <| region <| sv (yAsg rfl) <| nil ?_
 refine cwQ <| seq <| seq <| region <| sv (yMove rfl) <| sv (yNil rfl) <| sv (fa123_3 rfl) <| sv (yLdB rfl isAgg39 (hS.ext.get hkb) rfl) <| sv (yLen rfl underlying39) ?_
 refine sv (yMove rfl) <| nil <| cwQ <| block <| loop (fun f w zz => ∃ (k : Nat), f 0 = ptQ bk ∧ f 3 = .int .i64 ((((curS t now).take k).countP (fun i => decide (0 ≤ i)) : Nat) : Int) ∧ f 9 = .slice ax t.ctrs.length cx ∧ f 10 = .int .i64 (t.ctrs.length : Int) ∧ f 11 = .int .i64 (k : Int) ∧ StX [] w0 w [] ∧ (k ≤ t.ctrs.length) ∧ zz = t.ctrs.length - k) _ ⟨_, rfl, 0, rfl, rfl, rfl, rfl, rfl, hS, (Nat.zero_le _), rfl⟩ ?_
 clear hS
 rintro f w _ ⟨k, h0, h3, h9, h10, h11, hS, hk2, rfl⟩
 refine seq <| region <| sv (yLss h11 h10) <| nil <| cwQ <| seq ?_
 refine cond rfl (fun c12 => ?_) (fun c12 => ?_)
 ·
  simp only [BS, ne_eq] at c12
  have hx := curS_get t now (show k < t.ctrs.length by omega)
  obtain ⟨bq, oq, cq, haq, hlq, hcq, hRq, -⟩ := sl_at hX hx
  obtain ⟨rfl, -⟩ := hRq
  have hcnt : ((curS t now).take k).countP (fun i => decide (0 ≤ i)) ≤ k := by have := List.countP_le_length (p := fun i => decide (0 ≤ i)) (l := (curS t now).take k); rw [List.length_take] at this; omega
  refine skip <| cwQ <| seq <| block <| seq <| region <| sv (yIxQ h9 haq h11 runUnderlying39 sizeOf3) <| sv (yLd rfl isAgg3 (hcq.ext hS.ext).one) <| sv (yAsg rfl) ?_
  refine nil <| cwQ <| seq <| region <| sv (yMove rfl) <| sv (yGeq rfl rfl) <| nil <| cwQ ?_
  refine cond rfl (fun c16 => ?_) (fun c16 => ?_)
  ·
   simp only [BS, ne_eq] at c16
   refine region <| sv (yMove h3) <| sv (yAdd rfl rfl ⟨by omega, by omega⟩) <| sv (yAsg rfl) <| nil <| cwQ <| region <| sv (yAdd h11 rfl ⟨by omega, by omega⟩) <| sv (yMove rfl) ?_
   refine nil ?_
   exact ⟨_, _, rfl, ⟨k + 1, h0, (rfl.trans (congrArg (Value.int .i64) (by rw [take_snoc hx, List.countP_append, List.countP_singleton, decide_eq_true (show 0 ≤ curOf t now k by omega), if_pos rfl]; omega))), h9, h10, rfl, hS, (by omega), rfl⟩, by omega⟩
  ·
   simp only [BS, ne_eq] at c16
   refine skip <| cwQ <| region <| sv (yAdd h11 rfl ⟨by omega, by omega⟩) <| sv (yMove rfl) <| nil ?_
   exact ⟨_, _, rfl, ⟨k + 1, h0, (h3.trans (congrArg (Value.int .i64) (by rw [take_snoc hx, List.countP_append, List.countP_singleton, decide_eq_false (show ¬ 0 ≤ curOf t now k by omega), if_neg (by decide)]; omega))), h9, h10, rfl, hS, (by omega), rfl⟩, by omega⟩
 ·
  simp only [BS, ne_eq] at c12
  obtain rfl : k = t.ctrs.length := by omega
  rw [← hcl, List.take_length] at h3
  refine exit <| cwQ <| seq <| region <| sv (yMove h3) <| sv (yMove h0) <| sv (yNil rfl) <| sv (fa123_0 rfl) <| sv (fa29_10 rfl) ?_
  refine sv (yLdB rfl isAgg3 (hS.ext.get hkb) rfl) <| sv (yMin rfl rfl) <| sv (yAsg rfl) <| nil <| cwQ <| wp_ret ?_
  exact retV (res1 rfl rfl) hS.ext
end Go.Proofs.YtgidbailiababaaGreatDoor

/- part Sw7 -/
namespace Go.Proofs.YtgidbailiababaaGreatDoor
open Go Bx Go.Proofs.Tryz
set_option maxHeartbeats 4000000 in
theorem c_baseS {t : Sgt} {now : Int} {cv ov : Value} {ag ak ae aw ax : Option Addr} {cg ck ce cw cx bk mo : Nat} {os : List Span} {w0 w : World} {L9 : List Bx.Item} (h : RSgt w0 (scQ t cv ag ak ae cg ck ce) t) (hok : SgOk t) (hnow : Bd now 0 200000) (hg : Glb w0) (hown : (os = [] ∧ mo = 0 ∧ ov = .slice none 0 0) ∨ (os = baseS t now ∧ mo = t.ticks.toNat)) (hS : StX [] w0 w (blk bk (knQ t now cv ag ak ae cg ck ce aw cw ax cx ov) 123 :: rowI (ov) 74 2 mo ((os).flatMap spanC) :: rowI (.slice aw t.ticks.toNat cw) 74 2 t.ticks.toNat ((tidesS t).flatMap spanC) :: rowI (.slice ax t.ctrs.length cx) 3 1 t.ctrs.length ((curS t now).flatMap Bx.encI) :: L9)) : CE Tryz.prog 81 #[ptQ bk] w (fun u w' => ∃ ov', StX [] w0 w' (rowI (u) 74 2 t.ticks.toNat ((baseS t now).flatMap spanC) :: blk bk (knQ t now cv ag ak ae cg ck ce aw cw ax cx ov') 123 :: rowI (ov') 74 2 t.ticks.toNat ((baseS t now).flatMap spanC) :: rowI (.slice aw t.ticks.toNat cw) 74 2 t.ticks.toNat ((tidesS t).flatMap spanC) :: rowI (.slice ax t.ctrs.length cx) 3 1 t.ctrs.length ((curS t now).flatMap Bx.encI) :: L9)) := by
 obtain ⟨hT, hG, hw64, hf64, hk64, hC, hF, hl64, hm64, hr64, hq64⟩ := RSgt.parts h
 have htk := hok.tk
 have hlev := hok.levs.2
 have hn4 := hok.nums4
 obtain ⟨ao, co, rfl⟩ := row_shape (hS.row ov)
 obtain ⟨gw, rfl, -⟩ := row_get (hS.row (.slice aw t.ticks.toNat cw)) (by omega)
 refine enter func81 rfl ntmps81 rfl ?_
 skip
 refine seq <| region <| sv (yAsg rfl) <| nil <| cwQ <| seq <| seq <| region <| sv (yMove rfl) ?_
 refine sv (yNil rfl) <| sv (fa123_4 rfl) <| sv (yLdB rfl isAgg121 (hS.at _) rfl) <| sv (yEqNil rfl rfl underlying121) <| nil <| cwQ ?_
 refine cond rfl (fun c14 => ?_) (fun c14 => ?_)
 ·
  obtain ⟨rfl, rfl, hnv⟩ : os = [] ∧ mo = 0 ∧ Value.slice ao mo co = .slice none 0 0 := by
   rcases hown with hh | ⟨rfl, rfl⟩
   ·
    exact hh
   ·
    obtain ⟨g2, c2, e2, -⟩ := row_some (hS.row (.slice ao t.ticks.toNat co)) (by omega)
    cases e2
    cases c14
  cases hnv
  replace hS := hS.sub (.cons_cons _ (.cons _ lrQ))
  refine seq <| region_mix (fun w => StX [] w0 w (blk bk (knQ t now cv ag ak ae cg ck ce (some ⟨gw, 0, none⟩) cw ax cx (.slice none 0 0)) 123 :: rowI (.slice (some ⟨gw, 0, none⟩) t.ticks.toNat cw) 74 2 t.ticks.toNat ((tidesS t).flatMap spanC) :: rowI (.slice ax t.ctrs.length cx) 3 1 t.ctrs.length ((curS t now).flatMap Bx.encI) :: L9)) 11 mixed hS ?_
  clear hS; intro w hS
  refine fsQ 0 rfl (fun w hS => (yMove rfl)) <| fsQ 1 rfl (fun w hS => (yLdA rfl isAgg74 sizeOf74 (hg.ext hS.ext) rfl)) <| fsQ 3 rfl (fun w hS => (yMove rfl)) <| fsQ 4 rfl (fun w hS => (yNil rfl)) <| fsQ 5 rfl (fun w hS => (fa123_0 rfl)) <| fsQ 6 rfl (fun w hS => (fa29_4 rfl)) <| fsQ 7 rfl (fun w hS => (Y.to (yLdB rfl isAgg3 (hS.at bk) rfl) (congrArg (Value.int .i64) (show t.ticks = ((t.ticks.toNat : Nat) : Int) by omega)))) <| awQ <| a1Q 2 (by kernel_rfl) rfl ?_
  refine sbslice hS underlying121 sizeOf74 rfl zeroValue74 rfl (.cons rfl rfl .nil) rfl ?_; clear hS; intro b17 w hS
  refine nil <| kpQ <| awQ <| awQ <| a1Q 8 (by kernel_rfl) rfl ?_
  refine scall call140 (.cons rfl (.cons rfl .nil)) (c_RepeatS (k := t.ticks.toNat) (s := ⟨-20000, 20000⟩) (by omega) (hS.at b17)) ?_
  rintro rv w hM2; replace hS := hS.call1 hM2; clear hM2
  obtain ⟨go, co, rfl, hoc, hom, -⟩ := row_some (hS.row rv) (by omega)
  refine nil <| kpQ <| awQ <| awQ <| a1Q 9 (by kernel_rfl) rfl <| sv (yNil rfl) <| nil <| kpQ <| awQ ?_
  refine awQ <| a1Q 10 (by kernel_rfl) rfl <| sv (fa123_4 rfl) <| nil <| kpQ <| awQ <| awQ <| a1Q 11 (by kernel_rfl) rfl ?_
  refine sst hS rfl rfl sizeOf121 rfl rfl rfl rfl ?_; clear hS; intro w hS
  refine nil ?_
  refine ⟨fun h => absurd h (by decide), ?_⟩
  refine awQ <| a_end (by kernel_rfl) <| cwQ <| seq <| region ?_
  replace hS : StX [] w0 w (rowI (.slice (some ⟨go, 0, none⟩) t.ticks.toNat co) 74 2 t.ticks.toNat ((List.replicate t.ticks.toNat ⟨-20000, 20000⟩).flatMap spanC) :: blk bk (knQ t now cv ag ak ae cg ck ce (some ⟨gw, 0, none⟩) cw ax cx (.slice (some ⟨go, 0, none⟩) t.ticks.toNat co)) 123 :: rowI (.slice (some ⟨gw, 0, none⟩) t.ticks.toNat cw) 74 2 t.ticks.toNat ((tidesS t).flatMap spanC) :: rowI (.slice ax t.ctrs.length cx) 3 1 t.ctrs.length ((curS t now).flatMap Bx.encI) :: L9) := hS.sub (.cons_cons _ (.cons _ lrQ))
  refine sv (yMove rfl) <| sv (yNil rfl) <| sv (fa123_4 rfl) <| sv (yLdB rfl isAgg121 (hS.at _) rfl) <| sv (yFnB (.cons rfl .nil)) <| sv (yAsg rfl) <| nil <| cwQ <| seq ?_
  refine region <| sv (yMove rfl) <| sv (yNil rfl) <| sv (fa123_0 rfl) <| sv (fa29_4 rfl) <| sv (Y.to (yLdB rfl isAgg3 (hS.at bk) rfl) (congrArg (Value.int .i64) (show t.ticks = ((t.ticks.toNat : Nat) : Int) by omega))) ?_
  refine smake (bytes := 16) (zs := [.int .i64 0, .int .i64 0]) (m := t.ticks.toNat) hS rfl rfl underlying121 ti74 rfl rfl rfl rfl rfl (by omega) (by omega) ?_; clear hS; intro b36 w hS
  refine sv (yAsg rfl) <| nil <| cwQ <| seq <| seq <| region ?_
  rw [rep_flat, ← surgeK_0] at hS
  replace hS := hS.toRow 2 t.ticks.toNat (by rw [flat_len spanC_len, surgeK_len]) (by omega)
  refine sv (yMove rfl) <| sv (yNil rfl) <| sv (fa123_2 rfl) <| sv (yLdB rfl isAgg121 (hS.at _) rfl) <| sv (yLen rfl underlying121) <| sv (yMove rfl) <| nil <| cwQ <| block ?_
  refine loop (fun f w zz => ∃ (k : Nat), f 0 = ptQ bk ∧ f 3 = .func (.func 82) #[.slice (some ⟨go, 0, none⟩) t.ticks.toNat co] #[] ∧ f 4 = .slice (some ⟨b36, 0, none⟩) t.ticks.toNat t.ticks.toNat ∧ f 40 = .slice (some ⟨gw, 0, none⟩) t.ticks.toNat cw ∧ f 41 = .int .i64 (t.ticks.toNat : Int) ∧ f 42 = .int .i64 (k : Int) ∧ StX [] w0 w ((rowI (.slice (some ⟨b36, 0, none⟩) t.ticks.toNat t.ticks.toNat) 74 2 t.ticks.toNat ((surgeK t k).flatMap spanC) :: rowI (.slice (some ⟨go, 0, none⟩) t.ticks.toNat co) 74 2 t.ticks.toNat ((List.replicate t.ticks.toNat ⟨-20000, 20000⟩).flatMap spanC) :: blk bk (knQ t now cv ag ak ae cg ck ce (some ⟨gw, 0, none⟩) cw ax cx (.slice (some ⟨go, 0, none⟩) t.ticks.toNat co)) 123 :: rowI (.slice (some ⟨gw, 0, none⟩) t.ticks.toNat cw) 74 2 t.ticks.toNat ((tidesS t).flatMap spanC) :: rowI (.slice ax t.ctrs.length cx) 3 1 t.ctrs.length ((curS t now).flatMap Bx.encI) :: L9)) ∧ (k ≤ t.ticks.toNat) ∧ zz = t.ticks.toNat - k) _ ⟨_, rfl, 0, rfl, rfl, rfl, rfl, rfl, rfl, hS, (Nat.zero_le _), rfl⟩ ?_
  clear hS
  rintro f w _ ⟨k, h0, h3, h4, h40, h41, h42, hS, hk, rfl⟩
  refine seq <| region <| sv (yLss h42 h41) <| nil <| cwQ <| seq ?_
  refine cond rfl (fun c43 => ?_) (fun c43 => ?_)
  ·
   simp only [BS, ne_eq] at c43
   have hkl : k < t.ticks.toNat := by omega
   have htd := tide_sbd hok k
   unfold SBd at htd
   refine skip <| cwQ <| seq <| block <| seq <| region <| sv (yMove h42) <| sv (yIx0 (m := k) h40 h42 runUnderlying121 sizeOf74 (by omega)) <| sv (yLdA rfl isAgg74 sizeOf74 (flat_cells0 (enc := spanC) spanC_len (row_at (hS.row (.slice (some ⟨gw, 0, none⟩) t.ticks.toNat cw)) rfl (by omega)) (tidesS_get hkl)) rfl) ?_
   refine salloc hS zeroValue74 rfl ?_; clear hS; intro b6 w hS
   refine sv (yAsg rfl) ?_
   refine sst hS rfl rfl sizeOf74 rfl rfl rfl rfl ?_; clear hS; intro w hS
   refine nil <| cwQ <| region_mix (fun w => StX [] w0 w (blk b6 (spanC (tideS t k)) 74 :: rowI (.slice (some ⟨b36, 0, none⟩) t.ticks.toNat t.ticks.toNat) 74 2 t.ticks.toNat ((surgeK t k).flatMap spanC) :: rowI (.slice (some ⟨go, 0, none⟩) t.ticks.toNat co) 74 2 t.ticks.toNat ((List.replicate t.ticks.toNat ⟨-20000, 20000⟩).flatMap spanC) :: blk bk (knQ t now cv ag ak ae cg ck ce (some ⟨gw, 0, none⟩) cw ax cx (.slice (some ⟨go, 0, none⟩) t.ticks.toNat co)) 123 :: rowI (.slice (some ⟨gw, 0, none⟩) t.ticks.toNat cw) 74 2 t.ticks.toNat ((tidesS t).flatMap spanC) :: rowI (.slice ax t.ctrs.length cx) 3 1 t.ctrs.length ((curS t now).flatMap Bx.encI) :: L9)) 20 mixed hS ?_
   clear hS; intro w hS
   refine fsQ 0 rfl (fun w hS => (yMove h4)) <| fsQ 1 rfl (fun w hS => (yMove rfl)) <| fsQ 2 rfl (fun w hS => (fa74_0 rfl)) <| fsQ 3 rfl (fun w hS => (yLdB rfl isAgg3 (hS.at _) rfl)) <| fsQ 4 rfl (fun w hS => (yMove h0)) <| fsQ 5 rfl (fun w hS => (yNil rfl)) <| fsQ 6 rfl (fun w hS => (fa123_0 rfl)) <| fsQ 7 rfl (fun w hS => (fa29_7 rfl)) <| fsQ 8 rfl (fun w hS => (yLdB rfl isAgg3 (hS.at _) rfl)) ?_
   refine fsQ 9 rfl (fun w hS => (yAdd rfl rfl ⟨by omega, by omega⟩)) <| fsQ 10 rfl (fun w hS => (fa74_1 rfl)) <| fsQ 11 rfl (fun w hS => (yLdB rfl isAgg3 (hS.at _) rfl)) <| fsQ 12 rfl (fun w hS => (yMove h0)) <| fsQ 13 rfl (fun w hS => (yNil rfl)) <| fsQ 14 rfl (fun w hS => (fa123_0 rfl)) <| fsQ 15 rfl (fun w hS => (fa29_8 rfl)) <| fsQ 16 rfl (fun w hS => (yLdB rfl isAgg3 (hS.at _) rfl)) <| fsQ 17 rfl (fun w hS => (yAdd rfl rfl ⟨by omega, by omega⟩)) ?_
   refine fsQ 18 rfl (fun w hS => (yBuild zeroValue74 rfl pl74 (.cons rfl rfl (.cons rfl rfl .nil)) rfl)) <| fsQ 19 rfl (fun w hS => (yIx0 (m := k) rfl rfl runUnderlying121 sizeOf74 (by omega))) <| awQ <| a1Q 20 (by kernel_rfl) rfl ?_
   refine srst (m := t.ticks.toNat) (cap := t.ticks.toNat) (sz := 2) (vs := spanC ⟨(tideS t k).lo + t.least, (tideS t k).hi + t.most⟩) hS rfl rfl sizeOf74 rfl rfl (by omega) rfl ?_; clear hS; intro w hS
   rw [splice_enc spanC_len _ _ _ (by rw [surgeK_len]; omega)] at hS
   refine nil ?_
   refine ⟨fun h => absurd h (by decide), ?_⟩
   refine awQ <| a_end (by kernel_rfl) <| cwQ <| region <| sv (yAdd h42 rfl ⟨by omega, by omega⟩) <| sv (yMove rfl) <| nil ?_
   exact ⟨_, _, rfl, ⟨k + 1, h0, h3, h4, h40, h41, rfl, (by rw [surgeK_succ hkl]; exact hS.sub (.cons _ lrQ)), (by omega), rfl⟩, by omega⟩
  ·
   simp only [BS, ne_eq] at c43
   obtain rfl : k = t.ticks.toNat := by omega
   refine exit <| cwQ <| seq <| region <| sv (yMove h3) <| sv (yMove h4) ?_
   refine scallfB rfl call82 (.cons rfl .nil) (c_meetS (o := 0) (ss := List.replicate t.ticks.toNat ⟨-20000, 20000⟩) (os := surgeK t t.ticks.toNat) (hS.perm (List.Perm.swap _ _ _)) (fun q w2 h2 => sl_spans (h2.row (.slice (some ⟨b36, 0, none⟩) t.ticks.toNat t.ticks.toNat)) (surgeK_len ..) (lbd_i64 (surgeK_sbd hok _))) (by rw [surgeK_len]; omega) (by rw [List.length_replicate]) (by omega) (by omega)) ?_
   rintro _ w ⟨-, hM⟩; clear hS; have hS := hM; clear hM
   rw [meet_base (now := now)] at hS
   replace hS := hS.sub (.cons_cons _ (.cons _ lrQ))
   refine nil <| cwQ <| seq <| region <| sv (yMove h0) <| sv (yNil rfl) <| sv (fa123_4 rfl) <| sv (yLdB rfl isAgg121 (hS.at _) rfl) <| sv (yLen rfl underlying121) ?_
   refine sv (yMove rfl) <| nil <| cwQ <| block <| loop (fun f w zz => ∃ (k : Nat), f 0 = ptQ bk ∧ f 74 = .slice (some ⟨go, 0, none⟩) t.ticks.toNat co ∧ f 75 = .int .i64 (t.ticks.toNat : Int) ∧ f 76 = .int .i64 (k : Int) ∧ StX [] w0 w ((rowI (.slice (some ⟨go, 0, none⟩) t.ticks.toNat co) 74 2 t.ticks.toNat ((baseK t now k).flatMap spanC) :: blk bk (knQ t now cv ag ak ae cg ck ce (some ⟨gw, 0, none⟩) cw ax cx (.slice (some ⟨go, 0, none⟩) t.ticks.toNat co)) 123 :: rowI (.slice (some ⟨gw, 0, none⟩) t.ticks.toNat cw) 74 2 t.ticks.toNat ((tidesS t).flatMap spanC) :: rowI (.slice ax t.ctrs.length cx) 3 1 t.ctrs.length ((curS t now).flatMap Bx.encI) :: L9)) ∧ (k ≤ t.ticks.toNat) ∧ zz = t.ticks.toNat - k) _ ⟨_, rfl, 0, h0, rfl, rfl, rfl, hS, (Nat.zero_le _), rfl⟩ ?_
   clear hS
   rintro f w _ ⟨k, h0, h74, h75, h76, hS, hk, rfl⟩
   refine seq <| region <| sv (yLss h76 h75) <| nil <| cwQ <| seq ?_
   refine cond rfl (fun c77 => ?_) (fun c77 => ?_)
   ·
    simp only [BS, ne_eq] at c77
    have hkl : k < t.ticks.toNat := by omega
    have htb := tick_at hok hkl
    refine skip <| cwQ <| seq <| block <| seq <| region <| sv (yMove h76) <| sv (yAsg rfl) <| nil ?_
    refine cwQ <| seq <| seq <| region <| sv (yMove h0) <| sv (yNil rfl) <| sv (fa123_0 rfl) <| sv (fa29_1 rfl) <| sv (yLdB rfl isAgg25 (hS.at _) rfl) ?_
    refine sv (yLen rfl underlying25) <| sv (yEql rfl rfl) <| nil <| cwQ ?_
    refine cond rfl (fun c85 => ?_) (fun c85 => ?_)
    ·
     simp only [BS, ne_eq] at c85
     have hg0 : t.gauges = [] := List.eq_nil_of_length_eq_zero (by omega)
     rw [baseK_none hg0] at hS
     refine exit <| cwQ <| seq <| region <| sv (yMove h0) <| sv (yNil rfl) <| sv (fa123_4 rfl) <| sv (yLdB rfl isAgg121 (hS.at _) rfl) ?_
     refine scall call120 (.cons rfl .nil) (c_CloneS (sl_spans (hS.row _) (baseS_len ..) (lbd_i64 (baseS_lbd hok now))) (baseS_len ..) (by omega)) ?_
     rintro u w hM2; replace hS := hS.call1 hM2; clear hM2
     refine sv (yAsg rfl) <| nil <| cwQ <| wp_ret <| retQ (res1 rfl rfl) ?_
     exact ⟨_, hS.perm ((List.Perm.swap _ _ _).cons _)⟩
    ·
     simp only [BS, ne_eq] at c85
     have hg1 : t.gauges ≠ [] := fun e => by rw [e] at c85; exact c85 rfl
     refine skip <| cwQ <| seq <| region_mix (fun w => StX [] w0 w (rowI (.slice (some ⟨go, 0, none⟩) t.ticks.toNat co) 74 2 t.ticks.toNat ((baseK t now k).flatMap spanC) :: blk bk (knQ t now cv ag ak ae cg ck ce (some ⟨gw, 0, none⟩) cw ax cx (.slice (some ⟨go, 0, none⟩) t.ticks.toNat co)) 123 :: rowI (.slice (some ⟨gw, 0, none⟩) t.ticks.toNat cw) 74 2 t.ticks.toNat ((tidesS t).flatMap spanC) :: rowI (.slice ax t.ctrs.length cx) 3 1 t.ctrs.length ((curS t now).flatMap Bx.encI) :: L9)) 27 mixed hS ?_
     clear hS; intro w hS
     refine fsQ 0 rfl (fun w hS => (yMove h0)) <| fsQ 1 rfl (fun w hS => (yNil rfl)) <| fsQ 2 rfl (fun w hS => (fa123_0 rfl)) <| fsQ 3 rfl (fun w hS => (fa29_1 rfl)) <| fsQ 4 rfl (fun w hS => (yLdB rfl isAgg25 (hS.at _) rfl)) <| fsQ 5 rfl (fun w hS => (yMove h0)) <| fsQ 6 rfl (fun w hS => (yNil rfl)) <| fsQ 7 rfl (fun w hS => (fa123_0 rfl)) <| fsQ 8 rfl (fun w hS => (fa29_2 rfl)) ?_
     refine fsQ 9 rfl (fun w hS => (yLdB rfl isAgg3 (hS.at _) rfl)) <| fsQ 10 rfl (fun w hS => (yMove h0)) <| fsQ 11 rfl (fun w hS => (yNil rfl)) <| fsQ 12 rfl (fun w hS => (fa123_0 rfl)) <| fsQ 13 rfl (fun w hS => (fa29_3 rfl)) <| fsQ 14 rfl (fun w hS => (yLdB rfl isAgg3 (hS.at _) rfl)) <| fsQ 15 rfl (fun w hS => (yMove rfl)) <| fsQ 16 rfl (fun w hS => (yAdd rfl rfl ⟨by omega, by omega⟩)) <| fsQ 17 rfl (fun w hS => (yMove h0)) ?_
     refine fsQ 18 rfl (fun w hS => (yNil rfl)) <| fsQ 19 rfl (fun w hS => (fa123_1 rfl)) <| fsQ 20 rfl (fun w hS => (yLdB rfl isAgg3 (hS.at _) rfl)) <| awQ ?_
     refine a_step (i := 21) (is := [25]) (by kernel_rfl) ⟨?_, ?_, trivial⟩
     ·
      refine ⟨_, rfl, ?_⟩
      refine scV hS call29 (.cons rfl (.cons rfl (.cons rfl (.cons rfl .nil)))) (c_Sound (hG.ext RGauge.stays hS.ext) hw64 ⟨by omega, by omega⟩ ⟨by omega, by omega⟩) ?_; clear hS; intro w hS
      refine nil <| kpQ <| awQ <| fsQ 22 rfl (fun w hS => (yMove rfl)) <| fsQ 23 rfl (fun w hS => (yExt rfl rfl)) <| fsQ 24 rfl (fun w hS => (yExt rfl rfl)) <| awQ <| a1Q 25 (by kernel_rfl) rfl ?_
      refine salloc hS zeroValue74 rfl ?_; clear hS; intro b8 w hS
      refine nil <| kpQ <| awQ <| awQ <| a1Q 26 (by kernel_rfl) rfl ?_
      refine sst hS rfl rfl sizeOf74 rfl rfl rfl rfl ?_; clear hS; intro w hS
      refine nil <| kpQ <| awQ <| awQ <| a1Q 27 (by kernel_rfl) rfl <| sv (yAsg rfl) <| nil ?_
      refine ⟨fun h => absurd h (by decide), ?_⟩
      refine awQ <| a_end (by kernel_rfl) <| cwQ <| seq <| region <| sv (yMove rfl) <| sv (yEql rfl rfl) <| nil <| cwQ ?_
      refine cond rfl (fun c112 => ?_) (fun c112 => ?_)
      ·
       simp only [BS, ne_eq] at c112
       refine region_mix (fun w => StX [] w0 w (blk b8 (spanC (soundF t.gauges t.wrong (t.frm + k) now).1) 74 :: blk bk (knQ t now cv ag ak ae cg ck ce (some ⟨gw, 0, none⟩) cw ax cx (.slice (some ⟨go, 0, none⟩) t.ticks.toNat co)) 123 :: rowI (.slice (some ⟨gw, 0, none⟩) t.ticks.toNat cw) 74 2 t.ticks.toNat ((tidesS t).flatMap spanC) :: rowI (.slice ax t.ctrs.length cx) 3 1 t.ctrs.length ((curS t now).flatMap Bx.encI) :: L9)) 9 mixed hS ?_
       clear hS; intro w hS
       refine fsQ 0 rfl (fun w hS => (yMove h0)) <| fsQ 1 rfl (fun w hS => (yNil rfl)) <| fsQ 2 rfl (fun w hS => (fa123_4 rfl)) <| fsQ 3 rfl (fun w hS => (yLdB rfl isAgg121 (hS.at _) rfl)) <| fsQ 4 rfl (fun w hS => (yMove rfl)) <| fsQ 5 rfl (fun w hS => (yTailLt (i := k) rfl rfl underlying121 sizeOf74 (by omega) (by omega))) <| fsQ 6 rfl (fun w hS => (yLdBA rfl isAgg74 sizeOf74 (hS.at _) rfl rfl)) <| awQ <| a1Q 7 (by kernel_rfl) rfl ?_
       refine sbslice hS underlying121 sizeOf74 rfl zeroValue74 rfl (.cons rfl rfl .nil) rfl ?_; clear hS; intro b120 w hS
       refine nil <| kpQ <| awQ <| awQ <| a1Q 8 (by kernel_rfl) rfl ?_
       refine scall call82 (.cons rfl (.cons rfl .nil)) (c_meetS (o := k) (ss := baseK t now k) (os := [(soundF t.gauges t.wrong (t.frm + k) now).1]) (hS.perm (perm_c _ _ _ _)) (fun q w2 h2 => sl_span1 (h2.at b120) ((sound_sbd c112).mono (by decide)).i64) (by show 1 ≤ _; omega) (baseK_len ..) (by omega) (by omega)) ?_
       rintro _ w ⟨-, hM⟩; clear hS; have hS := hM; clear hM
       replace hS : StX [] w0 w (rowI (.slice (some ⟨go, 0, none⟩) t.ticks.toNat co) 74 2 t.ticks.toNat ((meetK (baseK t now k) [(soundF t.gauges t.wrong (t.frm + k) now).1] k 1).flatMap spanC) :: _) := hS
       rw [meetK_one, ← baseK_yes hkl hg1 c112] at hS
       refine nil <| kpQ <| awQ <| a_end (by kernel_rfl) <| cwQ <| region <| sv (yAdd h76 rfl ⟨by omega, by omega⟩) <| sv (yMove rfl) <| nil ?_
       exact ⟨_, _, rfl, ⟨k + 1, h0, h74, h75, rfl, (hS.sub (.cons_cons _ (.cons _ (.cons _ lrQ)))), (by omega), rfl⟩, by omega⟩
      ·
       simp only [BS, ne_eq] at c112
       refine skip <| cwQ <| region <| sv (yAdd h76 rfl ⟨by omega, by omega⟩) <| sv (yMove rfl) <| nil ?_
       exact ⟨_, _, rfl, ⟨k + 1, h0, h74, h75, rfl, (by rw [baseK_no c112]; exact hS.sub (.cons _ lrQ)), (by omega), rfl⟩, by omega⟩
     ·
      refine ⟨_, rfl, ?_⟩
      refine salloc hS zeroValue74 rfl ?_; clear hS; intro b8 w hS
      refine nil <| kpQ <| awQ <| awQ <| a1Q 21 (by kernel_rfl) rfl ?_
      refine scV hS call29 (.cons rfl (.cons rfl (.cons rfl (.cons rfl .nil)))) (c_Sound (hG.ext RGauge.stays hS.ext) hw64 ⟨by omega, by omega⟩ ⟨by omega, by omega⟩) ?_; clear hS; intro w hS
      refine nil <| kpQ <| awQ <| fsQ 22 rfl (fun w hS => (yMove rfl)) <| fsQ 23 rfl (fun w hS => (yExt rfl rfl)) <| fsQ 24 rfl (fun w hS => (yExt rfl rfl)) <| awQ <| a1Q 26 (by kernel_rfl) rfl ?_
      refine sst hS rfl rfl sizeOf74 rfl rfl rfl rfl ?_; clear hS; intro w hS
      refine nil <| kpQ <| awQ <| awQ <| a1Q 27 (by kernel_rfl) rfl <| sv (yAsg rfl) <| nil ?_
      refine ⟨fun h => absurd h (by decide), ?_⟩
      refine awQ <| a_end (by kernel_rfl) <| cwQ <| seq <| region <| sv (yMove rfl) <| sv (yEql rfl rfl) <| nil <| cwQ ?_
      refine cond rfl (fun c112 => ?_) (fun c112 => ?_)
      ·
       simp only [BS, ne_eq] at c112
       refine region_mix (fun w => StX [] w0 w (blk b8 (spanC (soundF t.gauges t.wrong (t.frm + k) now).1) 74 :: blk bk (knQ t now cv ag ak ae cg ck ce (some ⟨gw, 0, none⟩) cw ax cx (.slice (some ⟨go, 0, none⟩) t.ticks.toNat co)) 123 :: rowI (.slice (some ⟨gw, 0, none⟩) t.ticks.toNat cw) 74 2 t.ticks.toNat ((tidesS t).flatMap spanC) :: rowI (.slice ax t.ctrs.length cx) 3 1 t.ctrs.length ((curS t now).flatMap Bx.encI) :: L9)) 9 mixed hS ?_
       clear hS; intro w hS
       refine fsQ 0 rfl (fun w hS => (yMove h0)) <| fsQ 1 rfl (fun w hS => (yNil rfl)) <| fsQ 2 rfl (fun w hS => (fa123_4 rfl)) <| fsQ 3 rfl (fun w hS => (yLdB rfl isAgg121 (hS.at _) rfl)) <| fsQ 4 rfl (fun w hS => (yMove rfl)) <| fsQ 5 rfl (fun w hS => (yTailLt (i := k) rfl rfl underlying121 sizeOf74 (by omega) (by omega))) <| fsQ 6 rfl (fun w hS => (yLdBA rfl isAgg74 sizeOf74 (hS.at _) rfl rfl)) <| awQ <| a1Q 7 (by kernel_rfl) rfl ?_
       refine sbslice hS underlying121 sizeOf74 rfl zeroValue74 rfl (.cons rfl rfl .nil) rfl ?_; clear hS; intro b120 w hS
       refine nil <| kpQ <| awQ <| awQ <| a1Q 8 (by kernel_rfl) rfl ?_
       refine scall call82 (.cons rfl (.cons rfl .nil)) (c_meetS (o := k) (ss := baseK t now k) (os := [(soundF t.gauges t.wrong (t.frm + k) now).1]) (hS.perm (perm_c _ _ _ _)) (fun q w2 h2 => sl_span1 (h2.at b120) ((sound_sbd c112).mono (by decide)).i64) (by show 1 ≤ _; omega) (baseK_len ..) (by omega) (by omega)) ?_
       rintro _ w ⟨-, hM⟩; clear hS; have hS := hM; clear hM
       replace hS : StX [] w0 w (rowI (.slice (some ⟨go, 0, none⟩) t.ticks.toNat co) 74 2 t.ticks.toNat ((meetK (baseK t now k) [(soundF t.gauges t.wrong (t.frm + k) now).1] k 1).flatMap spanC) :: _) := hS
       rw [meetK_one, ← baseK_yes hkl hg1 c112] at hS
       refine nil <| kpQ <| awQ <| a_end (by kernel_rfl) <| cwQ <| region <| sv (yAdd h76 rfl ⟨by omega, by omega⟩) <| sv (yMove rfl) <| nil ?_
       exact ⟨_, _, rfl, ⟨k + 1, h0, h74, h75, rfl, (hS.sub (.cons_cons _ (.cons _ (.cons _ lrQ)))), (by omega), rfl⟩, by omega⟩
      ·
       simp only [BS, ne_eq] at c112
       refine skip <| cwQ <| region <| sv (yAdd h76 rfl ⟨by omega, by omega⟩) <| sv (yMove rfl) <| nil ?_
       exact ⟨_, _, rfl, ⟨k + 1, h0, h74, h75, rfl, (by rw [baseK_no c112]; exact hS.sub (.cons _ lrQ)), (by omega), rfl⟩, by omega⟩
   ·
    simp only [BS, ne_eq] at c77
    obtain rfl : k = t.ticks.toNat := by omega
    rw [baseK_all] at hS
    refine exit <| cwQ <| seq <| region <| sv (yMove h0) <| sv (yNil rfl) <| sv (fa123_4 rfl) <| sv (yLdB rfl isAgg121 (hS.at _) rfl) ?_
    refine scall call120 (.cons rfl .nil) (c_CloneS (sl_spans (hS.row _) (baseS_len ..) (lbd_i64 (baseS_lbd hok now))) (baseS_len ..) (by omega)) ?_
    rintro u w hM2; replace hS := hS.call1 hM2; clear hM2
    refine sv (yAsg rfl) <| nil <| cwQ <| wp_ret <| retQ (res1 rfl rfl) ?_
    exact ⟨_, hS.perm ((List.Perm.swap _ _ _).cons _)⟩
 ·
  obtain ⟨rfl, rfl⟩ : os = baseS t now ∧ mo = t.ticks.toNat := by
   rcases hown with ⟨_, _, e⟩ | hh
   ·
    cases e; cases c14
   ·
    exact hh
  refine skip <| cwQ <| seq <| region <| sv (yMove rfl) <| sv (yNil rfl) <| sv (fa123_4 rfl) <| sv (yLdB rfl isAgg121 (hS.at _) rfl) ?_
  refine scall call120 (.cons rfl .nil) (c_CloneS (sl_spans (hS.row _) (baseS_len ..) (lbd_i64 (baseS_lbd hok now))) (baseS_len ..) (by omega)) ?_
  rintro u w hM2; replace hS := hS.call1 hM2; clear hM2
  refine sv (yAsg rfl) <| nil <| cwQ <| wp_ret <| retQ (res1 rfl rfl) ?_
  exact ⟨_, hS⟩
end Go.Proofs.YtgidbailiababaaGreatDoor

/- part Sw8 -/
namespace Go.Proofs.YtgidbailiababaaGreatDoor
open Go Bx Go.Proofs.Tryz
set_option maxHeartbeats 4000000 in
theorem c_with {t : Sgt} {cv : Value} {ag ak ae : Option Addr} {cg ck ce : Nat} {now : Int} {w0 : World} (h : RSgt w0 (scQ t cv ag ak ae cg ck ce) t) (hI : I64 now) : CE Tryz.prog 63 #[.agg (scQ t cv ag ak ae cg ck ce).toArray, .int .i64 now] w0 (fun u w' => (askE t now ≠ 0 ∧ u = .tuple #[.pointer none, .int .i64 (askE t now)] ∧ Ext w0 w') ∨ (askE t now = 0 ∧ ∃ bk aw cw ax cx, u = .tuple #[ptQ bk, .int .i64 0] ∧ St w0 w' [blk bk (knQ t now cv ag ak ae cg ck ce aw cw ax cx (.slice none 0 0)) 123, rowI (.slice aw t.ticks.toNat cw) 74 2 t.ticks.toNat ((tidesS t).flatMap spanC), rowI (.slice ax t.ctrs.length cx) 3 1 t.ctrs.length ((curS t now).flatMap Bx.encI)])) := by
 obtain ⟨hT, hG, hw64, hf64, hk64, hC, hF, hl64, hm64, hr64, hq64⟩ := RSgt.parts h
 refine enter func63 rfl ntmps63 rfl ?_
 have hS := St.start w0
 refine seq <| region ?_
 refine sbox hS rfl rfl ?_; clear hS; intro b2 w hS
 refine sv (yAsg rfl) <| sv (yAsg rfl) <| nil <| cwQ <| seq <| region <| sv (yLdBA rfl isAgg29 sizeOf29 (hS.at _) rfl rfl) ?_
 refine scV hS call17 (.cons rfl .nil) (c_CheckS (h.ext hS.ext)) ?_; clear hS; intro w hS
 refine sv (yMove rfl) <| sv (yExt rfl rfl) <| sv (yExt rfl rfl) <| sv (yExt rfl rfl) <| sv (yAsg rfl) <| sv (yAsg rfl) <| sv (yAsg rfl) <| nil <| cwQ ?_
 refine seq <| block <| seq <| region <| sv (yMove rfl) <| sv (yNeq rfl rfl) <| sv (yAsg rfl) <| nil <| cwQ ?_
 refine cond rfl (fun c21 => ?_) (fun c21 => ?_)
 ·
  simp only [BS, ne_eq] at c21
  refine seq <| region <| sv (yMove rfl) <| sv (yAsg rfl) <| sv (yAsg rfl) <| nil <| cwQ ?_
  refine wp_ret (blockR (thenR ?_))
  refine retQ (res2 rfl rfl rfl) ?_
  have hE : askE t now = (checkS t).2.2 := by unfold askE; rw [if_pos c21]
  exact .inl ⟨by rw [hE]; exact c21, by rw [hE]; rfl, hS.ext⟩
 ·
  simp only [BS, ne_eq] at c21
  refine seq <| region <| sv (yMove rfl) ?_
  refine scV hS call53 (.cons rfl (.cons rfl (.cons rfl .nil))) c_outS ?_; clear hS; intro w hS
  refine sv (yAsg rfl) <| nil <| cwQ ?_
  refine cond rfl (fun c25 => ?_) (fun c25 => ?_)
  ·
   refine seq <| region <| sv (yAsg rfl) <| sv (yAsg rfl) <| nil <| cwQ ?_
   refine wp_ret (blockR (thenR ?_))
   refine retQ (res2 rfl rfl rfl) ?_
   have hE : askE t now = 7 := by unfold askE; rw [if_neg (fun k => k c21), if_pos c25]
   exact .inl ⟨by rw [hE]; decide, by rw [hE]; rfl, hS.ext⟩
  ·
   have hask : askE t now = 0 := by unfold askE; rw [if_neg (fun k => k c21), if_neg (by rw [c25]; decide)]
   obtain ⟨hok, hnow⟩ := askE_ok hask
   have htk := hok.tk
   have hnc := hok.nc
   have hnf := hok.nf
   refine skip <| cwQ <| seq <| region <| sv (yLdBA rfl isAgg29 sizeOf29 (hS.at _) rfl rfl) <| sv (yMove rfl) <| sv (yBuild zeroValue123 rfl pl123 (.cons rfl rfl (.cons rfl rfl .nil)) rfl) ?_
   refine sbox hS rfl rfl ?_; clear hS; intro b31 w hS
   refine sv (yAsg rfl) <| nil <| cwQ <| seq <| region <| sv (yMove rfl) <| sv (fa29_0 rfl) <| sv (yLdBA rfl isAgg24 sizeOf24 (hS.at _) rfl rfl) <| sv (fa29_3 rfl) ?_
   refine sv (yLdB rfl isAgg3 (hS.at _) rfl) <| sv (fa29_4 rfl) <| sv (yLdB rfl isAgg3 (hS.at _) rfl) ?_
   refine scall call54 (.cons rfl (.cons rfl (.cons rfl .nil))) (c_Levels (RTable.stays _ _ _ _ hS.ext hT)) ?_
   rintro _ w ⟨tv, rfl, hM⟩; replace hS := hS.call1 hM; clear hM
   rw [levelsF_good hok.lev, show lvlsL t.table t.frm t.ticks.toNat = tidesS t from rfl, tidesS_len] at hS
   obtain ⟨aw, cw, rfl⟩ := row_shape (hS.row tv)
   refine sv (yMove rfl) <| sv (yExt rfl rfl) <| sv (yExt rfl rfl) <| sv (yNil rfl) <| sv (fa123_2 rfl) ?_
   refine sst hS rfl rfl sizeOf121 rfl rfl rfl rfl ?_; clear hS; intro w hS
   refine nil <| cwQ <| seq <| seq <| region <| sv (fa29_5 rfl) <| sv (yLdB rfl isAgg26 (hS.at _) rfl) <| sv (yLen rfl underlying26) <| sv (yMove rfl) ?_
   refine nil <| cwQ <| block <| loop (fun f w zz => ∃ (k : Nat) (xv : Value), f 1 = .int .i64 now ∧ f 2 = ptQ b2 ∧ f 9 = ptQ b31 ∧ f 46 = .slice ak t.ctrs.length ck ∧ f 47 = .int .i64 (t.ctrs.length : Int) ∧ f 48 = .int .i64 (k : Int) ∧ StX [] w0 w ([rowI (xv) 3 1 k (((curS t now).take k).flatMap Bx.encI), rowI (.slice aw t.ticks.toNat cw) 74 2 t.ticks.toNat ((tidesS t).flatMap spanC), blk b31 [.int .i64 t.table.mean, cv, .slice ag t.gauges.length cg, .int .i64 t.wrong, .int .i64 t.frm, .int .i64 t.ticks, .slice ak t.ctrs.length ck, .slice ae t.fcs.length ce, .int .i64 t.least, .int .i64 t.most, .int .i64 t.rate, .int .i64 t.quorum, .int .i64 now, .slice aw t.ticks.toNat cw, xv, .slice none 0 0] 123, blk b2 (scQ t cv ag ak ae cg ck ce) 29]) ∧ (k ≤ t.ctrs.length) ∧ zz = t.ctrs.length - k) _ ⟨_, rfl, 0, _, rfl, rfl, rfl, rfl, rfl, rfl, (hS.nilrow 3 1), (Nat.zero_le _), rfl⟩ ?_
   clear hS
   rintro f w _ ⟨k, xv, h1, h2, h9, h46, h47, h48, hS, hk, rfl⟩
   refine seq <| region <| sv (yLss h48 h47) <| nil <| cwQ <| seq ?_
   refine cond rfl (fun c49 => ?_) (fun c49 => ?_)
   ·
    simp only [BS, ne_eq] at c49
    have hkl : k < t.ctrs.length := by omega
    obtain ⟨bq, oq, cq, haq, hlq, hcq, hRq, -⟩ := sl_at hC (ctr_get hkl)
    obtain ⟨rfl, hnm, -⟩ := hRq
    obtain ⟨q1, q2, q3⟩ := hok.ctrs hkl
    refine skip <| cwQ <| seq <| block <| seq <| region <| sv (yMove h48) <| sv (yIxQ h46 haq h48 runUnderlying26 sizeOf57) <| sv (yLdA rfl isAgg57 sizeOf57 (hcq.ext hS.ext) rfl) ?_
    refine salloc hS zeroValue57 rfl ?_; clear hS; intro b11 w hS
    refine sv (yAsg rfl) ?_
    refine sst hS rfl rfl sizeOf57 rfl rfl rfl rfl ?_; clear hS; intro w hS
    refine nil <| cwQ <| seq <| region <| sv (yAsg rfl) <| nil <| cwQ <| seq <| seq ?_
    refine region <| sv (fa29_6 h2) <| sv (yLdB rfl isAgg27 (hS.at _) rfl) <| sv (yLen rfl underlying27) <| sv (yMove rfl) <| nil <| cwQ <| block <| loop (fun f w zz => ∃ (j : Nat), f 1 = .int .i64 now ∧ f 2 = ptQ b2 ∧ f 9 = ptQ b31 ∧ f 46 = .slice ak t.ctrs.length ck ∧ f 47 = .int .i64 (t.ctrs.length : Int) ∧ f 48 = .int .i64 (k : Int) ∧ f 10 = .int .i64 (k : Int) ∧ f 11 = ptQ b11 ∧ f 12 = .int .i64 (curK t now k j) ∧ f 54 = .slice ae t.fcs.length ce ∧ f 55 = .int .i64 (t.fcs.length : Int) ∧ f 56 = .int .i64 (j : Int) ∧ StX [] w0 w ([blk b11 (ctrC (ctr t.ctrs k)) 57, rowI (xv) 3 1 k (((curS t now).take k).flatMap Bx.encI), rowI (.slice aw t.ticks.toNat cw) 74 2 t.ticks.toNat ((tidesS t).flatMap spanC), blk b31 [.int .i64 t.table.mean, cv, .slice ag t.gauges.length cg, .int .i64 t.wrong, .int .i64 t.frm, .int .i64 t.ticks, .slice ak t.ctrs.length ck, .slice ae t.fcs.length ce, .int .i64 t.least, .int .i64 t.most, .int .i64 t.rate, .int .i64 t.quorum, .int .i64 now, .slice aw t.ticks.toNat cw, xv, .slice none 0 0] 123, blk b2 (scQ t cv ag ak ae cg ck ce) 29]) ∧ (j ≤ t.fcs.length) ∧ zz = t.fcs.length - j) _ ⟨_, rfl, 0, h1, h2, h9, h46, h47, h48, rfl, rfl, rfl, rfl, rfl, rfl, hS, (Nat.zero_le _), rfl⟩ ?_
    clear hS
    rintro f w _ ⟨j, h1, h2, h9, h46, h47, h48, h10, h11, h12, h54, h55, h56, hS, hj, rfl⟩
    refine seq <| region <| sv (yLss h56 h55) <| nil <| cwQ <| seq ?_
    refine cond rfl (fun c57 => ?_) (fun c57 => ?_)
    ·
     simp only [BS, ne_eq] at c57
     have hjl : j < t.fcs.length := by omega
     obtain ⟨bf, of, cf, haf, hlf, hcf, hRf, -⟩ := sl_at hF (fct_get hjl)
     obtain ⟨mv, rfl, hf1, hf2, hf3, hMm⟩ := hRf
     obtain ⟨am, cm, rfl, -⟩ := id hMm
     obtain ⟨fo1, fo2, fo3, -⟩ := hok.fcts hjl
     have hcb := curK_bd t now k j
     obtain ⟨bl, ol, hlast⟩ := fct_if hF (curK t now k j) (by omega)
     refine skip <| cwQ <| seq <| block <| seq <| region <| sv (yMove h56) <| sv (yIxQ h54 haf h56 runUnderlying27 sizeOf61) <| sv (yLdA rfl isAgg61 sizeOf61 (hcf.ext hS.ext) rfl) ?_
     refine salloc hS zeroValue61 rfl ?_; clear hS; intro b14 w hS
     refine sv (yAsg rfl) ?_
     refine sst hS rfl rfl sizeOf61 rfl rfl rfl rfl ?_; clear hS; intro w hS
     refine nil <| cwQ <| seq <| region_draw mixed (by kernel_rfl) hS <| qv (fun w hS => (fa61_0 rfl)) <| qv (fun w hS => (yLdB rfl isAgg3 (hS.at _) rfl)) <| qv (fun w hS => (yMove h10)) <| qv (fun w hS => (yEql rfl rfl)) <| qv (fun w hS => (yMove rfl)) ?_
     refine qg rfl rfl rfl (fun g w hS => (fa61_1 rfl)) (fun v66 g66 => ?_)
     refine qg rfl rfl rfl (fun g w hS => (yLdB (g66.1 g) isAgg3 (hS.at _) rfl)) (fun v67 g67 => ?_)
     refine qg rfl rfl rfl (fun g w hS => (yMove h1)) (fun v68 g68 => ?_)
     refine qg rfl rfl rfl (fun g w hS => (fa57_1 h11)) (fun v69 g69 => ?_)
     refine qg rfl rfl rfl (fun g w hS => (yLdB (g69.1 g) isAgg3 (hS.at _) rfl)) (fun v70 g70 => ?_)
     refine qg rfl rfl rfl (fun g w hS => (ySub (g68.1 g) (g70.1 g) ⟨by omega, by omega⟩)) (fun v71 g71 => ?_)
     refine qg rfl rfl rfl (fun g w hS => (yLeq (g67.1 g) (g71.1 g))) (fun v72 g72 => ?_)
     refine qv (fun w hS => (yAnd rfl (fun hB => (g72.1 hB)) rfl)) <| qv (fun w hS => (yMove rfl)) ?_
     refine qg rfl rfl rfl (fun g w hS => (yMove h12)) (fun v75 g75 => ?_)
     refine qg rfl rfl rfl (fun g w hS => (yLss (g75.1 g) rfl)) (fun v76 g76 => ?_)
     refine qg rfl rfl rfl (fun g w hS => (yMove (g76.1 g))) (fun v77 g77 => ?_)
     refine qgg rfl rfl g77 (fun g w hS => (fa61_1 rfl)) (fun v78 g78 => ?_)
     refine qgg rfl rfl g77 (fun g w hS => (yLdB (g78.1 g) isAgg3 (hS.at _) rfl)) (fun v79 g79 => ?_)
     refine qgg rfl rfl g77 (fun g w hS => (fa29_6 h2)) (fun v80 g80 => ?_)
     refine qgg rfl rfl g77 (fun g w hS => (yLdB (g80.1 g) isAgg27 (hS.at _) rfl)) (fun v81 g81 => ?_)
     refine qgg rfl rfl g77 (fun g w hS => (yMove h12)) (fun v82 g82 => ?_)
     refine qgg rfl rfl g77 (fun g w hS => (yIxa (g81.1 g) (hlast (by have := of_decide_eq_false g.2; omega)).1 ((g82.1 g).trans (congrArg (Value.int .i64) (show curK t now k j = (((curK t now k j).toNat : Nat) : Int) by have := of_decide_eq_false g.2; omega))) runUnderlying27 sizeOf61 (by have := of_decide_eq_false g.2; omega) (by have := of_decide_eq_false g.2; omega))) (fun v83 g83 => ?_)
     refine qgg rfl rfl g77 (fun g w hS => (fa61_1 (g83.1 g))) (fun v84 g84 => ?_)
     refine qgg rfl rfl g77 (fun g w hS => (yLd (g84.1 g) isAgg3 ((hlast (by have := of_decide_eq_false g.2; omega)).2 |> hS.ext.cell))) (fun v85 g85 => ?_)
     refine qgg rfl rfl g77 (fun g w hS => (yGtr (g79.1 g) (g85.1 g))) (fun v86 g86 => ?_)
     refine qg rfl rfl rfl (fun g w hS => (yOr (g77.1 g) rfl (fun hB => (g86.1 ⟨g, hB⟩)))) (fun v87 g87 => ?_)
     refine qv (fun w hS => (yAnd rfl (fun hB => (g87.1 hB)) rfl)) ?_
     clear hS; refine qnil (fun w hS => ?_)
     refine cwQ ?_
     refine cond rfl (fun c88 => ?_) (fun c88 => ?_)
     ·
      simp only [BS, ne_eq] at c88
      refine region <| sv (yMove rfl) <| sv (yAsg rfl) <| nil <| cwQ <| region <| sv (yAdd h56 rfl ⟨by omega, by omega⟩) <| sv (yMove rfl) <| nil ?_
      exact ⟨_, _, rfl, ⟨j + 1, h1, h2, h9, h46, h47, h48, h10, h11, (rfl.trans (congrArg (Value.int .i64) (by rw [curK_succ]; unfold curStep; rw [if_pos ⟨c88.1.1, c88.1.2, c88.2⟩]))), h54, h55, rfl, (hS.sub (.cons _ lrQ)), (by omega), rfl⟩, by omega⟩
     ·
      simp only [BS, ne_eq] at c88
      refine skip <| cwQ <| region <| sv (yAdd h56 rfl ⟨by omega, by omega⟩) <| sv (yMove rfl) <| nil ?_
      exact ⟨_, _, rfl, ⟨j + 1, h1, h2, h9, h46, h47, h48, h10, h11, (h12.trans (congrArg (Value.int .i64) (by rw [curK_succ]; unfold curStep; rw [if_neg (fun hh => by omega)]))), h54, h55, rfl, (hS.sub (.cons _ lrQ)), (by omega), rfl⟩, by omega⟩
    ·
     simp only [BS, ne_eq] at c57
     obtain rfl : j = t.fcs.length := by omega
     refine exit <| cwQ <| region <| sv (yMove h9) <| sv (yMove h9) <| sv (yNil rfl) <| sv (fa123_3 rfl) <| sv (yLdB rfl isAgg39 (hS.at _) rfl) <| sv (yMove h12) ?_
     refine sbslice hS underlying39 sizeOf3 rfl zeroValue3 rfl (.cons rfl rfl .nil) rfl ?_; clear hS; intro b97 w hS
     refine sapp (bytes := 8) (size := 1) (v := xv) (m := 1) hS rfl rfl underlying39 ti3 rfl rfl rfl rfl (by decide) (blk_cells (hS.at _)) rfl rfl (by have := hok.nc; omega) (by have := hok.nc; omega) ?_; clear hS; intro v98 w hS
     refine sv (yNil rfl) <| sv (fa123_3 rfl) ?_
     obtain ⟨a98, c98, rfl⟩ := row_shape (hS.row v98)
     refine sst hS rfl rfl sizeOf39 rfl rfl rfl rfl ?_; clear hS; intro w hS
     refine nil <| cwQ <| region <| sv (yAdd h48 rfl ⟨by omega, by omega⟩) <| sv (yMove rfl) <| nil ?_
     exact ⟨_, _, rfl, ⟨k + 1, _, h1, h2, h9, h46, h47, rfl, (by rw [take_snoc (curS_get t now hkl), List.flatMap_append]; exact hS.sub (.cons _ (.cons _ lrQ))), (by omega), rfl⟩, by omega⟩
   ·
    simp only [BS, ne_eq] at c49
    obtain rfl : k = t.ctrs.length := by omega
    rw [← curS_len t now, List.take_length, curS_len] at hS
    obtain ⟨ax, cx, rfl⟩ := row_shape (hS.row xv)
    refine exit <| cwQ <| seq <| region <| sv (yMove h9) <| sv (yAsg rfl) <| sv (yAsg rfl) <| nil <| cwQ ?_
    refine wp_ret <| retQ (res2 rfl rfl rfl) ?_
    exact .inr ⟨hask, b31, aw, cw, ax, cx, rfl, hS.perm (with_perm _ _ _ _) |>.sub (.cons_cons _ (.cons_cons _ (.cons_cons _ (List.nil_sublist _))))⟩
end Go.Proofs.YtgidbailiababaaGreatDoor

/- part Sw9 -/
namespace Go.Proofs.YtgidbailiababaaGreatDoor
open Go Bx Go.Proofs.Tryz
set_option maxHeartbeats 1000000 in
theorem c_endsS {l : List Span} {v : Value} {fr : Int} {nn : Nat} {w0 : World} (hsl : Sl w0 2 RSpan v l) (hn : l.length = nn) (hlen : nn ≤ 1000) : CE Tryz.prog 121 #[v, .int .i64 fr] w0 (fun u w' => ∃ lv hv, u = .tuple #[.agg [.int .i64 fr, lv].toArray, .agg [.int .i64 fr, hv].toArray] ∧ St w0 w' [rowI lv 3 1 nn ((losS l).flatMap Bx.encI), rowI hv 3 1 nn ((hisS l).flatMap Bx.encI)]) := by
 subst hn
 obtain ⟨a, cap, rfl, hcap, hmx, -⟩ := id hsl
 refine enter func121 rfl ntmps121 rfl ?_
 have hS := St.start w0
 refine seq <| region ?_
 refine salloc hS zeroValue41 rfl ?_; clear hS; intro b4 w hS
 refine salloc hS zeroValue41 rfl ?_; clear hS; intro b5 w hS
 refine nil <| cwQ <| seq <| region <| sv (yMove rfl) <| sv (yMove rfl) <| sv (fa41_0 rfl) ?_
 refine sst hS rfl rfl sizeOf3 rfl rfl rfl rfl ?_; clear hS; intro w hS
 refine sv (fa41_0 rfl) ?_
 refine sst hS rfl rfl sizeOf3 rfl rfl rfl rfl ?_; clear hS; intro w hS
 refine nil <| cwQ <| seq <| seq <| region <| sv (yMove rfl) <| sv (yLen rfl underlying121) <| sv (yMove rfl) <| nil ?_
 refine cwQ <| block <| loop (fun f w zz => ∃ (k : Nat) (lv hv : Value), f 0 = .slice a l.length cap ∧ f 4 = ptQ b4 ∧ f 5 = ptQ b5 ∧ f 12 = .slice a l.length cap ∧ f 13 = .int .i64 (l.length : Int) ∧ f 14 = .int .i64 (k : Int) ∧ StX [] w0 w [rowI (lv) 3 1 k (((losS l).take k).flatMap Bx.encI), rowI (hv) 3 1 k (((hisS l).take k).flatMap Bx.encI), blk b5 [.int .i64 fr, hv] 41, blk b4 [.int .i64 fr, lv] 41] ∧ (k ≤ l.length) ∧ zz = l.length - k) _ ⟨_, rfl, 0, _, _, rfl, rfl, rfl, rfl, rfl, rfl, ((hS.nilrow 3 1).nilrow 3 1), (Nat.zero_le _), rfl⟩ ?_
 clear hS
 rintro f w _ ⟨k, lv, hv, h0, h4, h5, h12, h13, h14, hS, hk, rfl⟩
 refine seq <| region <| sv (yLss h14 h13) <| nil <| cwQ <| seq ?_
 refine cond rfl (fun c15 => ?_) (fun c15 => ?_)
 ·
  simp only [BS, ne_eq] at c15
  have hkl : k < l.length := by omega
  obtain ⟨bx, ox, cx, hax, hlx, hcx, hRx, -⟩ := sl_at hsl (spn_get (l := l) hkl)
  obtain ⟨rfl, -⟩ := hRx
  refine skip <| cwQ <| seq <| block <| seq <| region <| sv (yIxQ h12 hax h14 runUnderlying121 sizeOf74) <| sv (yLdA rfl isAgg74 sizeOf74 (hcx.ext hS.ext) rfl) ?_
  refine salloc hS zeroValue74 rfl ?_; clear hS; intro b7 w hS
  refine sst hS rfl rfl sizeOf74 rfl rfl rfl rfl ?_; clear hS; intro w hS
  refine nil <| cwQ ?_
  refine region_m (fun w => w.heap[b4]? = some (.cells ([.int .i64 fr, lv] : List Value).toArray 41 (0, 0)) ∧ w.heap[b7]? = some (.cells (spanC (spn l k) : List Value).toArray 74 (0, 0))) (fun w => w.heap[b5]? = some (.cells ([.int .i64 fr, hv] : List Value).toArray 41 (0, 0)) ∧ w.heap[b7]? = some (.cells (spanC (spn l k) : List Value).toArray 74 (0, 0))) [13] [15] mixed (fun c a a' w h => by obtain ⟨_, v, hv, _⟩ := h; cases hv) hS ?_; clear hS; intro w hS
  refine mq 0 0 [] (by kernel_rfl) rfl trivial (fun w hS => (fa41_1 h4)) <| mq 1 1 [5, 11, 12, 13] (by kernel_rfl) rfl ⟨hS.at b4, hS.at b7⟩ (fun w hS => (yLdB rfl isAgg39 hS.1 rfl)) <| mq 0 2 [] (by kernel_rfl) rfl trivial (fun w hS => (fa74_0 rfl)) <| mq 1 3 [4, 5, 11, 12, 13] (by kernel_rfl) rfl ⟨hS.at b4, hS.at b7⟩ (fun w hS => (yLdB rfl isAgg3 hS.2 rfl)) <| mq 0 6 [] (by kernel_rfl) rfl trivial (fun w hS => (fa41_1 h5)) <| mq 2 7 [11, 13, 14, 15] (by kernel_rfl) rfl ⟨hS.at b5, hS.at b7⟩ (fun w hS => (yLdB rfl isAgg39 hS.1 rfl)) <| mq 0 8 [] (by kernel_rfl) rfl trivial (fun w hS => (fa74_1 rfl)) <| mq 2 9 [10, 11, 13, 14, 15] (by kernel_rfl) rfl ⟨hS.at b5, hS.at b7⟩ (fun w hS => (yLdB rfl isAgg3 hS.2 rfl)) ?_
  refine ms (i := 4) (is := [10]) (by kernel_rfl) ⟨⟨_, rfl, ?_⟩, ⟨_, rfl, ?_⟩, trivial⟩
  ·
   refine sbslice hS underlying39 sizeOf3 rfl zeroValue3 rfl (.cons rfl rfl .nil) rfl ?_; clear hS; intro b22 w hS
   refine nil ⟨⟨fun _ _ => ⟨hS.at b4, hS.at b7⟩, fun _ _ => ⟨hS.at b5, hS.at b7⟩⟩, mw ?_⟩
   refine ms (i := 5) (is := [10]) (by kernel_rfl) ⟨⟨_, rfl, ?_⟩, ⟨_, rfl, ?_⟩, trivial⟩
   ·
    refine sapp (bytes := 8) (size := 1) (v := lv) (m := 1) hS rfl rfl underlying39 ti3 rfl rfl rfl rfl (by decide) (blk_cells (hS.at _)) rfl rfl (by omega) (by omega) ?_; clear hS; intro v23 w hS
    refine nil ⟨⟨fun _ _ => ⟨hS.at b4, hS.at b7⟩, fun _ _ => ⟨hS.at b5, hS.at b7⟩⟩, mw ?_⟩
    refine mq 0 12 [] (by kernel_rfl) rfl trivial (fun w hS => (fa41_1 h4)) <| m1 10 (by kernel_rfl) rfl ?_
    refine sbslice hS underlying39 sizeOf3 rfl zeroValue3 rfl (.cons rfl rfl .nil) rfl ?_; clear hS; intro b28 w hS
    refine nil ⟨⟨fun _ _ => ⟨hS.at b4, hS.at b7⟩, fun _ _ => ⟨hS.at b5, hS.at b7⟩⟩, mw ?_⟩
    refine m1 11 (by kernel_rfl) rfl ?_
    refine sapp (bytes := 8) (size := 1) (v := hv) (m := 1) hS rfl rfl underlying39 ti3 rfl rfl rfl rfl (by decide) (blk_cells (hS.at _)) rfl rfl (by omega) (by omega) ?_; clear hS; intro v29 w hS
    refine nil ⟨⟨fun _ _ => ⟨hS.at b4, hS.at b7⟩, fun _ _ => ⟨hS.at b5, hS.at b7⟩⟩, mw ?_⟩
    refine m1 13 (by kernel_rfl) rfl ?_
    obtain ⟨a23, c23, rfl⟩ := row_shape (hS.row v23)
    refine sst hS rfl rfl sizeOf39 rfl rfl rfl rfl ?_; clear hS; intro w hS
    refine nil ⟨⟨fun h => absurd h (by decide), fun _ _ => ⟨hS.at b5, hS.at b7⟩⟩, mw ?_⟩
    refine mq 0 14 [] (by kernel_rfl) rfl trivial (fun w hS => (fa41_1 h5)) <| m1 15 (by kernel_rfl) rfl ?_
    have hS0 := hS
    obtain ⟨a29, c29, rfl⟩ := row_shape (hS.row v29)
    refine sst hS rfl rfl sizeOf39 rfl rfl rfl rfl ?_; clear hS; intro w hS
    refine nil ⟨⟨fun _ h => ⟨(hS.at b4).trans ((hS0.at b4).symm.trans h.1), hS.at b7⟩, fun h => absurd h (by decide)⟩, mw ?_⟩
    refine me (by kernel_rfl) <| cwQ <| region <| sv (yAdd h14 rfl ⟨by omega, by omega⟩) <| sv (yMove rfl) <| nil ?_
    exact ⟨_, _, rfl, ⟨k + 1, _, _, h0, h4, h5, h12, h13, rfl, (by rw [take_snoc (show (losS l)[k]? = some (spn l k).lo by simp [losS, spn_get hkl]), take_snoc (show (hisS l)[k]? = some (spn l k).hi by simp [hisS, spn_get hkl]), List.flatMap_append, List.flatMap_append]; first | exact hS.sub (.cons _ (.cons _ (.cons _ lrQ))) | exact (hS.sub (.cons _ (.cons _ (.cons _ lrQ)))).perm (List.Perm.swap _ _ _)), (by omega), rfl⟩, by omega⟩
   ·
    refine sbslice hS underlying39 sizeOf3 rfl zeroValue3 rfl (.cons rfl rfl .nil) rfl ?_; clear hS; intro b28 w hS
    refine nil ⟨⟨fun _ _ => ⟨hS.at b4, hS.at b7⟩, fun _ _ => ⟨hS.at b5, hS.at b7⟩⟩, mw ?_⟩
    refine m1 5 (by kernel_rfl) rfl ?_
    refine sapp (bytes := 8) (size := 1) (v := lv) (m := 1) hS rfl rfl underlying39 ti3 rfl rfl rfl rfl (by decide) (blk_cells (hS.at _)) rfl rfl (by omega) (by omega) ?_; clear hS; intro v23 w hS
    refine nil ⟨⟨fun _ _ => ⟨hS.at b4, hS.at b7⟩, fun _ _ => ⟨hS.at b5, hS.at b7⟩⟩, mw ?_⟩
    refine mq 0 12 [] (by kernel_rfl) rfl trivial (fun w hS => (fa41_1 h4)) <| m1 11 (by kernel_rfl) rfl ?_
    refine sapp (bytes := 8) (size := 1) (v := hv) (m := 1) hS rfl rfl underlying39 ti3 rfl rfl rfl rfl (by decide) (blk_cells (hS.at _)) rfl rfl (by omega) (by omega) ?_; clear hS; intro v29 w hS
    refine nil ⟨⟨fun _ _ => ⟨hS.at b4, hS.at b7⟩, fun _ _ => ⟨hS.at b5, hS.at b7⟩⟩, mw ?_⟩
    refine m1 13 (by kernel_rfl) rfl ?_
    obtain ⟨a23, c23, rfl⟩ := row_shape (hS.row v23)
    refine sst hS rfl rfl sizeOf39 rfl rfl rfl rfl ?_; clear hS; intro w hS
    refine nil ⟨⟨fun h => absurd h (by decide), fun _ _ => ⟨hS.at b5, hS.at b7⟩⟩, mw ?_⟩
    refine mq 0 14 [] (by kernel_rfl) rfl trivial (fun w hS => (fa41_1 h5)) <| m1 15 (by kernel_rfl) rfl ?_
    have hS0 := hS
    obtain ⟨a29, c29, rfl⟩ := row_shape (hS.row v29)
    refine sst hS rfl rfl sizeOf39 rfl rfl rfl rfl ?_; clear hS; intro w hS
    refine nil ⟨⟨fun _ h => ⟨(hS.at b4).trans ((hS0.at b4).symm.trans h.1), hS.at b7⟩, fun h => absurd h (by decide)⟩, mw ?_⟩
    refine me (by kernel_rfl) <| cwQ <| region <| sv (yAdd h14 rfl ⟨by omega, by omega⟩) <| sv (yMove rfl) <| nil ?_
    exact ⟨_, _, rfl, ⟨k + 1, _, _, h0, h4, h5, h12, h13, rfl, (by rw [take_snoc (show (losS l)[k]? = some (spn l k).lo by simp [losS, spn_get hkl]), take_snoc (show (hisS l)[k]? = some (spn l k).hi by simp [hisS, spn_get hkl]), List.flatMap_append, List.flatMap_append]; first | exact hS.sub (.cons _ (.cons _ (.cons _ lrQ))) | exact (hS.sub (.cons _ (.cons _ (.cons _ lrQ)))).perm (List.Perm.swap _ _ _)), (by omega), rfl⟩, by omega⟩
  ·
   refine sbslice hS underlying39 sizeOf3 rfl zeroValue3 rfl (.cons rfl rfl .nil) rfl ?_; clear hS; intro b28 w hS
   refine nil ⟨⟨fun _ _ => ⟨hS.at b4, hS.at b7⟩, fun _ _ => ⟨hS.at b5, hS.at b7⟩⟩, mw ?_⟩
   refine m1 4 (by kernel_rfl) rfl ?_
   refine sbslice hS underlying39 sizeOf3 rfl zeroValue3 rfl (.cons rfl rfl .nil) rfl ?_; clear hS; intro b22 w hS
   refine nil ⟨⟨fun _ _ => ⟨hS.at b4, hS.at b7⟩, fun _ _ => ⟨hS.at b5, hS.at b7⟩⟩, mw ?_⟩
   refine m1 5 (by kernel_rfl) rfl ?_
   refine sapp (bytes := 8) (size := 1) (v := lv) (m := 1) hS rfl rfl underlying39 ti3 rfl rfl rfl rfl (by decide) (blk_cells (hS.at _)) rfl rfl (by omega) (by omega) ?_; clear hS; intro v23 w hS
   refine nil ⟨⟨fun _ _ => ⟨hS.at b4, hS.at b7⟩, fun _ _ => ⟨hS.at b5, hS.at b7⟩⟩, mw ?_⟩
   refine mq 0 12 [] (by kernel_rfl) rfl trivial (fun w hS => (fa41_1 h4)) <| m1 11 (by kernel_rfl) rfl ?_
   refine sapp (bytes := 8) (size := 1) (v := hv) (m := 1) hS rfl rfl underlying39 ti3 rfl rfl rfl rfl (by decide) (blk_cells (hS.at _)) rfl rfl (by omega) (by omega) ?_; clear hS; intro v29 w hS
   refine nil ⟨⟨fun _ _ => ⟨hS.at b4, hS.at b7⟩, fun _ _ => ⟨hS.at b5, hS.at b7⟩⟩, mw ?_⟩
   refine m1 13 (by kernel_rfl) rfl ?_
   obtain ⟨a23, c23, rfl⟩ := row_shape (hS.row v23)
   refine sst hS rfl rfl sizeOf39 rfl rfl rfl rfl ?_; clear hS; intro w hS
   refine nil ⟨⟨fun h => absurd h (by decide), fun _ _ => ⟨hS.at b5, hS.at b7⟩⟩, mw ?_⟩
   refine mq 0 14 [] (by kernel_rfl) rfl trivial (fun w hS => (fa41_1 h5)) <| m1 15 (by kernel_rfl) rfl ?_
   have hS0 := hS
   obtain ⟨a29, c29, rfl⟩ := row_shape (hS.row v29)
   refine sst hS rfl rfl sizeOf39 rfl rfl rfl rfl ?_; clear hS; intro w hS
   refine nil ⟨⟨fun _ h => ⟨(hS.at b4).trans ((hS0.at b4).symm.trans h.1), hS.at b7⟩, fun h => absurd h (by decide)⟩, mw ?_⟩
   refine me (by kernel_rfl) <| cwQ <| region <| sv (yAdd h14 rfl ⟨by omega, by omega⟩) <| sv (yMove rfl) <| nil ?_
   exact ⟨_, _, rfl, ⟨k + 1, _, _, h0, h4, h5, h12, h13, rfl, (by rw [take_snoc (show (losS l)[k]? = some (spn l k).lo by simp [losS, spn_get hkl]), take_snoc (show (hisS l)[k]? = some (spn l k).hi by simp [hisS, spn_get hkl]), List.flatMap_append, List.flatMap_append]; first | exact hS.sub (.cons _ (.cons _ (.cons _ lrQ))) | exact (hS.sub (.cons _ (.cons _ (.cons _ lrQ)))).perm (List.Perm.swap _ _ _)), (by omega), rfl⟩, by omega⟩
 ·
  simp only [BS, ne_eq] at c15
  obtain rfl : k = l.length := by omega
  rw [show (losS l).take l.length = losS l from List.take_of_length_le (by simp [losS]), show (hisS l).take l.length = hisS l from List.take_of_length_le (by simp [hisS])] at hS
  refine exit <| cwQ <| seq <| region_mix (fun w => w.heap[b4]? = some (.cells ([.int .i64 fr, lv] : List Value).toArray 41 (0, 0)) ∧ w.heap[b5]? = some (.cells ([.int .i64 fr, hv] : List Value).toArray 41 (0, 0))) 4 mixed hS ?_
  clear hS; intro w hS
  obtain ⟨alv, clv, rfl⟩ := row_shape (hS.row lv)
  obtain ⟨ahv, chv, rfl⟩ := row_shape (hS.row hv)
  refine fsR 0 rfl ⟨hS.at b4, hS.at b5⟩ (fun w hS => (yLdBA h4 isAgg41 sizeOf41 hS.1 rfl rfl)) <| fsR 1 rfl ⟨hS.at b4, hS.at b5⟩ (fun w hS => (yLdBA h5 isAgg41 sizeOf41 hS.2 rfl rfl)) <| awQ <| a1Q 2 (by kernel_rfl) rfl ?_
  refine sst hS h4 rfl sizeOf41 rfl rfl rfl rfl ?_; clear hS; intro w hS
  refine nil ?_
  refine ⟨fun _ => ⟨hS.at b4, hS.at b5⟩, ?_⟩
  refine awQ <| awQ <| a1Q 3 (by kernel_rfl) rfl ?_
  refine sst hS h5 rfl sizeOf41 rfl rfl rfl rfl ?_; clear hS; intro w hS
  refine nil ?_
  refine ⟨fun _ => ⟨hS.at b4, hS.at b5⟩, ?_⟩
  refine awQ <| a_end (by kernel_rfl) <| cwQ <| wp_ret <| retQ (resV2 rfl (rc h4 isAgg41 sizeOf41 (hS.at _) rfl rfl) (rc h5 isAgg41 sizeOf41 (hS.at _) rfl rfl)) ?_
  exact ⟨_, _, rfl, hS.sub (.cons_cons _ (.cons_cons _ (List.nil_sublist _)))⟩
theorem c_choices {bk nn : Nat} {c : List Int} {many : Int} {asv : Option Addr} {csv : Nat} {w0 : World} : CE Tryz.prog 118 #[ptQ bk, .agg (chC c).toArray, .int .i64 (c.length : Int), .int .i64 many, .slice asv nn csv] w0 (fun u w' => ∃ i5 i6 i7 i8 i9, u = .func (.func 168) #[] [ptQ i7, ptQ i5, ptQ i8, ptQ i6, ptQ i9].toArray ∧ St w0 w' [blk i9 [.slice asv nn csv] 121, blk i8 [.int .i64 many] 3, blk i7 [.int .i64 (c.length : Int)] 3, blk i6 (chC c) 113, blk i5 [ptQ bk] 107]) := by
 refine enter func118 rfl ntmps118 rfl ?_
 have hS := St.start w0
 refine seq <| region ?_
 refine sbox hS rfl rfl ?_; clear hS; intro b5 w hS
 refine sbox hS rfl rfl ?_; clear hS; intro b6 w hS
 refine sbox hS rfl rfl ?_; clear hS; intro b7 w hS
 refine sbox hS rfl rfl ?_; clear hS; intro b8 w hS
 refine sbox hS rfl rfl ?_; clear hS; intro b9 w hS
 refine sv (yAsg rfl) <| nil <| cwQ <| seq <| region <| sv (yFn (.cons rfl (.cons rfl (.cons rfl (.cons rfl (.cons rfl .nil)))))) <| sv (yAsg rfl) <| nil <| cwQ ?_
 refine wp_ret <| retQ (res1 rfl rfl) ?_
 exact ⟨b5, b6, b7, b8, b9, rfl, hS⟩
end Go.Proofs.YtgidbailiababaaGreatDoor

/- part S13 -/
namespace Bx
open Go Go.RowKit
section
variable {P : Program} {ops : Array Oper} {Q : Exit → Act → World → Prop} {rest : List Oper} {n d : Nat} {f : Fr} {ds : List Deferred} {w : World} {r : Option Nat} {ty : TypeId} {pos : String} {af : Array Edge}
theorem yieldR {fx : Operand} {xs : List Operand} {ts : Array TypeId} {l : Nat} {vs : List Value} {R : Value → World → Prop} (hf : ev n f fx = .func (.yield l) #[] #[]) (ha : Evs (ev n f) xs vs) (hy : YieldIn P l vs w R)
    (h : ∀ v w', R v w' → wpListIn (FX r) 0 P ops Q rest (mkd n (upd f d v) ds) w') : wpListIn (FX r) 0 P ops Q (⟨some d, .call ⟨.value fx, xs.toArray, ts⟩, ty, pos, af, none⟩ :: rest) (mkd n f ds) w := by
  unfold wpListIn
  rw [if_pos (by simp [Region.wanted])]
  obtain ⟨fn, tmps, assign, body, hr, hR⟩ := hy
  refine ⟨fun _ _ => trivial, ?_⟩
  rw [Oper.semAt_plain (FX r) _ _ (noDefer_spec rfl), wD_eval, mk_eval, execOp_xop, yield_run hf ha hr, Oper.uponIn_round]
  refine ⟨fun h => (by cases h), ?_⟩
  have hR2 : RoundIn (FX r) (0 - 1) P l fn tmps assign body w fun e w' => ∃ v, e = .returned v ∧ R v w' := hR
  refine RoundIn.mono hR2 ?_
  rintro e w' ⟨v, rfl, hv⟩
  show wpListIn (FX r) 0 P ops Q rest ((wD ds (mk n f)).put (some d) v) w'
  rw [wD_put, mk_put]
  exact h v w' hv
end
theorem chmark {w0 w : World} {D : Nat} {x : Item} {L : List Item} (h : StX [] w0 w (x :: obj D (.deferred (some [])) :: L)) : StX [] w0 w (packI (marks [D]) :: x :: L) := by
  have h1 : StX [] w0 w (obj D (.deferred (some [])) :: x :: L) := h.perm (List.Perm.swap _ _ _)
  have h2 : StX [] w0 w (obj D (.deferred (some [])) :: packI (marks []) :: x :: L) := h1.mark0.perm (List.Perm.swap _ _ _)
  exact h2.mark
theorem chmarks {w0 w : World} {D : Nat} {Ds : List Nat} {y : Item} {L : List Item} (h : StX [] w0 w (obj D (.deferred (some [])) :: y :: packI (marks Ds) :: L)) : StX [] w0 w (packI (marks (D :: Ds)) :: L) := by
  have h1 : StX [] w0 w (obj D (.deferred (some [])) :: packI (marks Ds) :: L) := h.sub (.cons_cons _ (.cons _ (List.Sublist.refl _)))
  exact h1.mark
section
variable {t : Sgt} {cs : List Int}
theorem ch_trace {n k : Nat} {c : List Int} {many : Int} {s : List Span} {f : Fct} {A B X : List ChX} {x : ChX} (hm : ¬ (cs.getD c.length (-1) < 0 ∨ many = 0)) (hf : f = fct t.fcs (cs.getD c.length (-1)).toNat) (hk : k < f.members.length)
    (hA : A.map (·.1) = chS t cs n (c ++ [-1]) many s) (hB : B.map (·.1) = chM t cs n c many s f k) (hX : (X ++ [x]).map (·.1) <+: chS t cs n (c ++ [(k : Int)]) (many - 1) (meetS s (tubeS t f (mem f k)))) :
    ((A ++ (B ++ X)) ++ [x]).map (·.1) <+: chS t cs (n + 1) c many s := by
  rw [List.append_assoc, List.append_assoc, List.map_append, List.map_append, hA, hB, ch_more hm, ← hf]
  refine (List.prefix_append_right_inj _).2 ?_
  refine List.IsPrefix.trans ?_ (chM_pre (k := f.members.length) (show k + 1 ≤ f.members.length by omega))
  rw [chM_succ]
  exact (List.prefix_append_right_inj _).2 hX
theorem ch_whole {n : Nat} {c : List Int} {many : Int} {s : List Span} {f : Fct} {A B : List ChX} (hm : ¬ (cs.getD c.length (-1) < 0 ∨ many = 0)) (hf : f = fct t.fcs (cs.getD c.length (-1)).toNat)
    (hA : A.map (·.1) = chS t cs n (c ++ [-1]) many s) (hB : B.map (·.1) = chM t cs n c many s f f.members.length) : (A ++ B).map (·.1) = chS t cs (n + 1) c many s := by
  rw [List.map_append, hA, hB, ch_more hm, ← hf]
end
end Bx

/- part Sw10 -/
namespace Go.Proofs.YtgidbailiababaaGreatDoor
open Go Bx Go.Proofs.Tryz
def ItCh (w0 : World) (t : Sgt) (now : Int) (cv ov : Value) (ag ak ae aw ax : Option Addr) (cg ck ce cw cx bk : Nat) (T : TypeId) (n : Nat) : Prop := ∀ (c : List Int) (many : Int) (sp : List Span) (asv : Option Addr) (csv i5 i6 i7 i8 i9 : Nat), c.length + n = t.ctrs.length → 0 ≤ many → many ≤ 4 → sp.length = t.ticks.toNat → LBd 40000000 sp → ItQ Tryz.prog 168 [ptQ i7, ptQ i5, ptQ i8, ptQ i6, ptQ i9] w0 [blk i9 [.slice asv t.ticks.toNat csv] 121, blk i8 [.int .i64 many] 3, blk i7 [.int .i64 ((c).length : Int)] 3, blk i6 (chC (c)) 113, blk i5 [ptQ bk] 107] encCh (RdC bk T (knQ t now cv ag ak ae cg ck ce aw cw ax cx ov) t now aw ax asv cw cx csv (sp)) (ChT (RdC bk T (knQ t now cv ag ak ae cg ck ce aw cw ax cx ov) t now aw ax asv cw cx csv (sp)) t.ticks.toNat (chS t (curS t now) n (c) (many) (sp))) (ChZ (chS t (curS t now) n (c) (many) (sp)))
set_option maxHeartbeats 8000000 in
theorem it_chstep {n : Nat} {t : Sgt} {now : Int} {cv ov : Value} {ag ak ae aw ax : Option Addr} {cg ck ce cw cx bk : Nat} {T : TypeId} {c : List Int} {many : Int} {sp : List Span} {asv : Option Addr} {csv i5 i6 i7 i8 i9 : Nat} {w0 : World} (h : RSgt w0 (scQ t cv ag ak ae cg ck ce) t) (hok : SgOk t) (hnow : Bd now 0 200000) (hg : Glb w0) (IH : ∀ m, n = m + 1 → ItCh w0 t now cv ov ag ak ae aw ax cg ck ce cw cx bk T m) (hcn : c.length + n = t.ctrs.length) (hm0 : 0 ≤ many) (hm4 : many ≤ 4) (hsl : sp.length = t.ticks.toNat) (hsb : LBd 40000000 sp) : ItQ Tryz.prog 168 [ptQ i7, ptQ i5, ptQ i8, ptQ i6, ptQ i9] w0 [blk i9 [.slice asv t.ticks.toNat csv] 121, blk i8 [.int .i64 many] 3, blk i7 [.int .i64 ((c).length : Int)] 3, blk i6 (chC (c)) 113, blk i5 [ptQ bk] 107] encCh (RdC bk T (knQ t now cv ag ak ae cg ck ce aw cw ax cx ov) t now aw ax asv cw cx csv (sp)) (ChT (RdC bk T (knQ t now cv ag ak ae cg ck ce aw cw ax cx ov) t now aw ax asv cw cx csv (sp)) t.ticks.toNat (chS t (curS t now) n (c) (many) (sp))) (ChZ (chS t (curS t now) n (c) (many) (sp))) := by
 obtain ⟨hT, hG, hw64, hf64, hk64, hC, hF, hl64, hm64, hr64, hq64⟩ := RSgt.parts h
 have htk := hok.tk
 have hnc := hok.nc
 have hc4 : c.length ≤ 4 := by omega
 intro yl Cb w L hRd hY h0 hS
 replace hS : StX [] w0 w (blk i9 [.slice asv t.ticks.toNat csv] 121 :: blk i8 [.int .i64 many] 3 :: blk i7 [.int .i64 (c.length : Int)] 3 :: blk i6 (chC c) 113 :: blk i5 [ptQ bk] 107 :: L) := hS
 refine enterX func168 rfl ntmps168 rfl ?_
 skip
 refine seqX <| regionX rfl ?_
 refine sbox hS rfl rfl ?_; clear hS; intro b6 w hS
 refine nil ?_
 show Code.wpIn _ _ _ _ _ _ _
 refine seqX <| seqX <| region_drawX mixed (by kernel_rfl) rfl hS ?_
 have hcb := h0
 have rd : ∀ w, StX [] w0 w (blk b6 [.func (.yield yl) #[] #[]] 212 :: blk i9 [.slice asv t.ticks.toNat csv] 121 :: blk i8 [.int .i64 many] 3 :: blk i7 [.int .i64 (c.length : Int)] 3 :: blk i6 (chC (c)) 113 :: blk i5 [ptQ bk] 107 :: L) → RdC bk T (knQ t now cv ag ak ae cg ck ce aw cw ax cx ov) t now aw ax asv cw cx csv (sp) w := fun w hS => hRd _ w L [blk b6 [.func (.yield yl) #[] #[]] 212, blk i9 [.slice asv t.ticks.toNat csv] 121, blk i8 [.int .i64 many] 3, blk i7 [.int .i64 (c.length : Int)] 3, blk i6 (chC (c)) 113, blk i5 [ptQ bk] 107] hcb hS
 refine qv (fun w hS => (yLdB rfl isAgg3 (hS.at _) rfl)) <| qv (fun w hS => (yLdB rfl isAgg107 (hS.at _) rfl)) <| qv (fun w hS => (yNil rfl)) <| qv (fun w hS => (fa123_3 rfl)) <| qv (fun w hS => (yLdB rfl isAgg39 (rd w hS).1 rfl)) <| qv (fun w hS => (yLen rfl underlying39)) <| qv (fun w hS => (yEql rfl rfl)) ?_
 clear hS; refine qnil (fun w hS => ?_)
 show Code.wpIn _ _ _ _ _ _ _
 refine condX rfl (fun c20 => ?_) (fun c20 => ?_)
 ·
  simp only [BS, ne_eq] at c20
  obtain rfl : n = 0 := by omega
  refine seqX <| seqX <| regionX rfl <| sv (yLdB rfl isAgg3 (hS.at _) rfl) <| sv (yEql rfl rfl) <| nil ?_
  show Code.wpIn _ _ _ _ _ _ _
  refine condX rfl (fun c22 => ?_) (fun c22 => ?_)
  ·
   simp only [BS, ne_eq] at c22
   have hcz : many = 0 := by omega
   refine regionL <| preX 3 rfl <| sv (yLdB rfl isAgg212 (hS.at _) rfl) <| sv (yLdBA rfl isAgg113 sizeOf113 (hS.at _) rfl rfl) <| sv (yLdB rfl isAgg121 (hS.at _) rfl) <| nil ?_
   show wpListIn _ _ _ _ _ _ _ _
   refine yieldU rfl (.cons rfl (.cons rfl .nil)) (hY [] ((c, sp), .slice asv t.ticks.toNat csv) w L [blk b6 [.func (.yield yl) #[] #[]] 212, blk i9 [.slice asv t.ticks.toNat csv] 121, blk i8 [.int .i64 many] 3, blk i7 [.int .i64 (c.length : Int)] 3, blk i6 (chC (c)) 113, blk i5 [ptQ bk] 107] (ChT.mk (by simp [ch_zero, hcz]) ⟨_, _, rfl⟩ (fun w hw hr => hr.2.2.2)) h0 hS) ?_
   clear hS hcb rd; rintro _ w ⟨bq, L, rfl, hcb, hS⟩
   refine endX rfl <| nil ?_
   show Code.wpIn _ _ _ _ _ _ _
   refine wpIn_ret (thenR ?_)
   refine leafX (results_none rfl _ _ _) ?_
   refine ⟨L, hS.sub (.cons _ (.cons _ (.cons _ (.cons _ (.cons _ (.cons _ lrQ)))))), ?_⟩
   cases bq with
   | true => exact .inl ⟨_, by simp [ChZ, ch_zero, hcz], hcb⟩
   | false => exact .inr ⟨_, hcb⟩
  ·
   simp only [BS, ne_eq] at c22
   have hcz : ¬ many = 0 := by omega
   refine skipX ?_
   show Code.wpIn _ _ _ _ _ _ _
   refine wpIn_ret (thenR ?_)
   refine leafX (results_none rfl _ _ _) ?_
   exact ⟨L, hS.sub (.cons _ (.cons _ (.cons _ (.cons _ (.cons _ (.cons _ lrQ)))))), .inl ⟨[], by simp [ChZ, ch_zero, hcz], h0⟩⟩
 ·
  simp only [BS, ne_eq] at c20
  obtain ⟨m, rfl⟩ : ∃ m, n = m + 1 := ⟨n - 1, by omega⟩
  have hcl : c.length < t.ctrs.length := by omega
  refine skipX ?_
  show Code.wpIn _ _ _ _ _ _ _
  refine seqX <| regionX rfl <| sv (yLdB rfl isAgg3 (hS.at _) rfl) <| sv (Y.to (yIxA rfl rfl runUnderlying113 sizeOf3 (by omega) (by omega)) (congrArg (fun q => Value.pointer (some ⟨i6, q, none⟩)) (show 0 + ((c.length : Nat) : Int).toNat * 1 = c.length by omega))) ?_
  refine sst (vs := [.int .i64 (-1)]) hS rfl rfl sizeOf3 rfl rfl (by rw [Nat.ble_eq]; show c.length + 1 ≤ 4; omega) rfl ?_; clear hS; intro w hS; rw [chC_set (-1) c (by omega)] at hS
  refine nil ?_
  show Code.wpIn _ _ _ _ _ _ _
  refine seqX <| seqX <| regionX rfl <| sv (yLdB rfl isAgg107 (hS.at _) rfl) <| sv (yLdBA rfl isAgg113 sizeOf113 (hS.at _) rfl rfl) <| sv (yLdB rfl isAgg3 (hS.at _) rfl) <| sv (Y.to (yAdd rfl rfl ⟨by omega, by omega⟩) (congrArg (Value.int .i64) (show (c.length : Int) + 1 = (((c ++ [-1]).length : Nat) : Int) by simp))) <| sv (yLdB rfl isAgg3 (hS.at _) rfl) <| sv (yLdB rfl isAgg121 (hS.at _) rfl) ?_
  refine scall call118 (.cons rfl (.cons rfl (.cons rfl (.cons rfl (.cons rfl .nil))))) (c_choices (c := c ++ [-1]) (nn := t.ticks.toNat)) ?_
  rintro _ w ⟨j5, j6, j7, j8, j9, rfl, hM⟩; replace hS := hS.call hM; clear hM
  refine nil ?_
  show Code.wpIn _ _ _ _ _ _ _
  refine blockX ?_
  refine rangeQ (R := [blk j9 [.slice asv t.ticks.toNat csv] 121, blk j8 [.int .i64 many] 3, blk j7 [.int .i64 ((c ++ [-1]).length : Int)] 3, blk j6 (chC (c ++ [-1])) 113, blk j5 [ptQ bk] 107]) (L0 := blk b6 [.func (.yield yl) #[] #[]] 212 :: blk i9 [.slice asv t.ticks.toNat csv] 121 :: blk i8 [.int .i64 many] 3 :: blk i7 [.int .i64 (c.length : Int)] 3 :: blk i6 (chC (c ++ [-1])) 113 :: blk i5 [ptQ bk] 107 :: L) (ps := [36, 37]) rfl call168 hS (IH m rfl (c ++ [-1]) many sp asv csv j5 j6 j7 j8 j9 (by simp; omega) (by omega) (by omega) hsl hsb) (fun cc pre L => (cc = none ∧ ∃ L2, L = blk b6 [.func (.yield yl) #[] #[]] 212 :: blk i9 [.slice asv t.ticks.toNat csv] 121 :: blk i8 [.int .i64 many] 3 :: blk i7 [.int .i64 (c.length : Int)] 3 :: blk i6 (chC (c ++ [-1])) 113 :: blk i5 [ptQ bk] 107 :: L2 ∧ Cb true pre L2) ∨ (cc = some .ret ∧ ∃ L2, L = blk b6 [.func (.yield yl) #[] #[]] 212 :: blk i9 [.slice asv t.ticks.toNat csv] 121 :: blk i8 [.int .i64 many] 3 :: blk i7 [.int .i64 (c.length : Int)] 3 :: blk i6 (chC (c ++ [-1])) 113 :: blk i5 [ptQ bk] 107 :: L2 ∧ Cb false pre L2)) (.inl ⟨rfl, L, rfl, h0⟩) (fun _ => rfl) (fun pre w L M hcb2 hS => by
   obtain ⟨-, L2, rfl, hcb3⟩ := hcb2.resolve_right (fun h => by cases h.1)
   exact hRd _ w L2 [blk b6 [.func (.yield yl) #[] #[]] 212, blk i9 [.slice asv t.ticks.toNat csv] 121, blk i8 [.int .i64 many] 3, blk i7 [.int .i64 (c.length : Int)] 3, blk i6 (chC (c ++ [-1])) 113, blk i5 [ptQ bk] 107] hcb3 (hS.sub (List.sublist_append_left _ M))) ?_ ?_ ?_
  ·
   clear hS
   intro yl2 pre x w L M M0 hT hsub hcb2 hS
   obtain ⟨-, L2, rfl, hcb⟩ := hcb2.resolve_right (fun h => by cases h.1)
   obtain ⟨hTp, hTs, hTl⟩ := hT.last
   obtain ⟨⟨xc, xs2⟩, xv⟩ := x
   obtain ⟨axv, cxv, hxv⟩ := hTs
   obtain rfl : xv = _ := hxv
   replace hS : StX [] w0 w (blk b6 [.func (.yield yl) #[] #[]] 212 :: blk i9 [.slice asv t.ticks.toNat csv] 121 :: blk i8 [.int .i64 many] 3 :: blk i7 [.int .i64 (c.length : Int)] 3 :: blk i6 (chC (c ++ [-1])) 113 :: blk i5 [ptQ bk] 107 :: (L2 ++ M)) := hS
   refine seqX <| regionX rfl ?_
   refine salloc hS zeroValue113 rfl ?_; clear hS; intro b7 w hS
   refine sst hS rfl rfl sizeOf113 rfl rfl rfl rfl ?_; clear hS; intro w hS
   refine nil ?_
   show Code.wpIn _ _ _ _ _ _ _
   refine regionX rfl <| sv (yAsg rfl) <| nil ?_
   refine ⟨_, blk b7 (chC xc) 113 :: blk b6 [.func (.yield yl) #[] #[]] 212 :: blk i9 [.slice asv t.ticks.toNat csv] 121 :: blk i8 [.int .i64 many] 3 :: blk i7 [.int .i64 (c.length : Int)] 3 :: blk i6 (chC (c ++ [-1])) 113 :: blk i5 [ptQ bk] 107 :: L2, rfl, hS, ?_⟩
   clear hS hsub; clear M; intro M w hsub hS; replace hS : StX [] w0 w (blk b7 (chC xc) 113 :: blk b6 [.func (.yield yl) #[] #[]] 212 :: blk i9 [.slice asv t.ticks.toNat csv] 121 :: blk i8 [.int .i64 many] 3 :: blk i7 [.int .i64 (c.length : Int)] 3 :: blk i6 (chC (c ++ [-1])) 113 :: blk i5 [ptQ bk] 107 :: (L2 ++ M)) := hS
   refine blockX <| seqX <| regionL <| preX 3 rfl <| sv (yLdB rfl isAgg212 (hS.at _) rfl) <| sv (yLdBA rfl isAgg113 sizeOf113 (hS.at _) rfl rfl) <| sv (yMove rfl) <| nil ?_
   show wpListIn _ _ _ _ _ _ _ _
   replace hS := hS.perm (perm_mid [blk b7 (chC xc) 113, blk b6 [.func (.yield yl) #[] #[]] 212, blk i9 [.slice asv t.ticks.toNat csv] 121, blk i8 [.int .i64 many] 3, blk i7 [.int .i64 (c.length : Int)] 3, blk i6 (chC (c ++ [-1])) 113, blk i5 [ptQ bk] 107] L2 M)
   refine yieldR rfl (.cons rfl (.cons rfl .nil)) (hY (pre) ((xc, xs2), .slice axv t.ticks.toNat cxv) _ L2 ([blk b7 (chC xc) 113, blk b6 [.func (.yield yl) #[] #[]] 212, blk i9 [.slice asv t.ticks.toNat csv] 121, blk i8 [.int .i64 many] 3, blk i7 [.int .i64 (c.length : Int)] 3, blk i6 (chC (c ++ [-1])) 113, blk i5 [ptQ bk] 107] ++ M) (ChT.mk (by exact hTp.trans ch_first) ⟨_, _, rfl⟩ (fun w hw hr => hTl w (fun it hit => hw it (List.mem_append_right _ (hsub it hit))) hr)) hcb hS) ?_
   clear hS hcb; rintro _ w ⟨bq, L3, rfl, hcb, hS⟩
   replace hS : StX [] w0 w (blk b7 (chC xc) 113 :: blk b6 [.func (.yield yl) #[] #[]] 212 :: blk i9 [.slice asv t.ticks.toNat csv] 121 :: blk i8 [.int .i64 many] 3 :: blk i7 [.int .i64 (c.length : Int)] 3 :: blk i6 (chC (c ++ [-1])) 113 :: blk i5 [ptQ bk] 107 :: (L3 ++ M)) := hS.perm (perm_mid [blk b7 (chC xc) 113, blk b6 [.func (.yield yl) #[] #[]] 212, blk i9 [.slice asv t.ticks.toNat csv] 121, blk i8 [.int .i64 many] 3, blk i7 [.int .i64 (c.length : Int)] 3, blk i6 (chC (c ++ [-1])) 113, blk i5 [ptQ bk] 107] L3 M).symm
   refine endX rfl <| sv (yNot rfl) <| nil ?_
   show Code.wpIn _ _ _ _ _ _ _
   refine condX rfl (fun c42 => ?_) (fun c42 => ?_)
   ·
    obtain rfl : bq = false := by cases bq; rfl; cases c42
    refine wpIn_ret (blockR ?_)
    exact ⟨_, (.inr ⟨rfl, L3, rfl, hcb⟩), hS.sub (.cons _ lrQ)⟩
   ·
    obtain rfl : bq = true := by cases bq; cases c42; rfl
    refine skipX ?_
    exact ⟨_, (.inl ⟨rfl, L3, rfl, hcb⟩), (hS.sub (.cons _ lrQ))⟩
  ·
   clear hS
   intro D w L xs hZ hcb hS
   have hcb0 := hcb.resolve_right (fun h => by cases h.1)
   clear hcb h0
   obtain ⟨-, L2, rfl, hcb⟩ := hcb0
   replace hS : StX [] w0 w (obj D (.deferred (some [])) :: blk b6 [.func (.yield yl) #[] #[]] 212 :: blk i9 [.slice asv t.ticks.toNat csv] 121 :: blk i8 [.int .i64 many] 3 :: blk i7 [.int .i64 (c.length : Int)] 3 :: blk i6 (chC (c ++ [-1])) 113 :: blk i5 [ptQ bk] 107 :: L2) := hS
   show Code.wpIn _ _ _ _ _ _ _
   refine seqX <| seqX <| region_drawX mixed (by kernel_rfl) rfl hS ?_
   have rd : ∀ w, StX [] w0 w (obj D (.deferred (some [])) :: blk b6 [.func (.yield yl) #[] #[]] 212 :: blk i9 [.slice asv t.ticks.toNat csv] 121 :: blk i8 [.int .i64 many] 3 :: blk i7 [.int .i64 (c.length : Int)] 3 :: blk i6 (chC (c ++ [-1])) 113 :: blk i5 [ptQ bk] 107 :: L2) → RdC bk T (knQ t now cv ag ak ae cg ck ce aw cw ax cx ov) t now aw ax asv cw cx csv (sp) w := fun w hS => hRd _ w L2 [obj D (.deferred (some [])), blk b6 [.func (.yield yl) #[] #[]] 212, blk i9 [.slice asv t.ticks.toNat csv] 121, blk i8 [.int .i64 many] 3, blk i7 [.int .i64 (c.length : Int)] 3, blk i6 (chC (c ++ [-1])) 113, blk i5 [ptQ bk] 107] hcb hS
   have hcx := curS_get t now hcl
   obtain ⟨bq, oq, cq, haq, -, -, -, -⟩ := sl_at (rd w hS).2.2.1 hcx
   subst haq
   have hz1 := hZ
   refine qv (fun w hS => (yLdB rfl isAgg107 (hS.at _) rfl)) <| qv (fun w hS => (yNil rfl)) <| qv (fun w hS => (fa123_3 rfl)) <| qv (fun w hS => (yLdB rfl isAgg39 (rd w hS).1 rfl)) <| qv (fun w hS => (yLdB rfl isAgg3 (hS.at _) rfl)) <| qv (fun w hS => (yIxQ rfl rfl rfl runUnderlying39 sizeOf3)) <| qv (fun w hS => (yLd rfl isAgg3 (sl_cell (rd w hS).2.2.1 hcx))) <| qv (fun w hS => (yLss rfl rfl)) <| qv (fun w hS => (yMove rfl)) ?_
   refine qg rfl rfl rfl (fun g w hS => (yLdB rfl isAgg3 (hS.at _) rfl)) (fun v52 g52 => ?_)
   refine qg rfl rfl rfl (fun g w hS => (yEql (g52.1 g) rfl)) (fun v53 g53 => ?_)
   refine qv (fun w hS => (yOr rfl rfl (fun hB => (g53.1 hB)))) ?_
   clear hS; refine qnil (fun w hS => ?_)
   show Code.wpIn _ _ _ _ _ _ _
   refine condX rfl (fun c54 => ?_) (fun c54 => ?_)
   ·
    simp only [BS, ne_eq] at c54
    have hskip : (curS t now).getD c.length (-1) < 0 ∨ many = 0 := by rw [cur_at hcl]; exact c54
    refine wpIn_ret (thenR ?_)
    refine leafD hS (fun w hS => (results_none rfl _ _ _)) (fun w hS => ?_)
    exact ⟨L2, hS.sub (.cons _ (.cons _ (.cons _ (.cons _ (.cons _ (.cons _ (.cons _ lrQ))))))), .inl ⟨_, by unfold ChZ at *; rw [ch_skip hskip]; exact hz1, hcb⟩⟩
   ·
    simp only [BS, ne_eq] at c54
    have hmore : ¬ ((curS t now).getD c.length (-1) < 0 ∨ many = 0) := by rw [cur_at hcl]; omega
    obtain ⟨hcf, hfo⟩ := cur_fct (now := now) (i := c.length) hok (by omega)
    obtain ⟨bf, of, csf, haf, -, hcf2, hRf, -⟩ := sl_at hF (fct_get hcf)
    obtain ⟨mv, rfl, hf1, hf2, hf3, hMm⟩ := id hRf
    obtain ⟨am, cm, rfl, hmcap, hmmx, -⟩ := id hMm
    have hnm := hfo.nm
    refine skipX ?_
    show Code.wpIn _ _ _ _ _ _ _
    refine seqX <| region_anyX (C := (fun w => StX [] w0 w (obj D (.deferred (some [])) :: blk b6 [.func (.yield yl) #[] #[]] 212 :: blk i9 [.slice asv t.ticks.toNat csv] 121 :: blk i8 [.int .i64 many] 3 :: blk i7 [.int .i64 (c.length : Int)] 3 :: blk i6 (chC (c ++ [-1])) 113 :: blk i5 [ptQ bk] 107 :: L2))) mixed 14 16 (by kernel_rfl) rfl hS (fun _ h => h) ?_
    clear hS; intro w hS
    refine hv (fun w hS => (yLdB rfl isAgg107 (hS.at _) rfl)) <| hv (fun w hS => (yNil rfl)) <| hv (fun w hS => (fa123_0 rfl)) <| hv (fun w hS => (fa29_6 rfl)) <| hv (fun w hS => (yLdB rfl isAgg27 (rd w hS).1 rfl)) <| hv (fun w hS => (yLdB rfl isAgg107 (hS.at _) rfl)) <| hv (fun w hS => (yNil rfl)) <| hv (fun w hS => (fa123_3 rfl)) <| hv (fun w hS => (yLdB rfl isAgg39 (rd w hS).1 rfl)) ?_
    refine hv (fun w hS => (yLdB rfl isAgg3 (hS.at _) rfl)) <| hv (fun w hS => (yIxQ rfl rfl rfl runUnderlying39 sizeOf3)) <| hv (fun w hS => (yLd rfl isAgg3 (sl_cell (rd w hS).2.2.1 hcx))) <| hv (fun w hS => (yIxQ rfl haf (rfl.trans (congrArg (Value.int .i64) (show curOf t now c.length = (((curOf t now c.length).toNat : Nat) : Int) by omega))) runUnderlying27 sizeOf61)) <| hv (fun w hS => (yLdA rfl isAgg61 sizeOf61 (hcf2.ext hS.ext) rfl)) <| hnil <| awQ <| a1Q 14 (by kernel_rfl) rfl ?_
    refine salloc hS zeroValue61 rfl ?_; clear hS; intro b9 w hS
    refine nil ?_
    refine ⟨fun _ => hS.sub (.cons _ lrQ), ?_⟩
    refine awQ <| a1Q 15 (by kernel_rfl) rfl ?_
    refine sst hS rfl rfl sizeOf61 rfl rfl rfl rfl ?_; clear hS; intro w hS
    refine nil ?_
    refine ⟨fun _ => hS.sub (.cons _ lrQ), ?_⟩
    refine awQ <| a_end (by kernel_rfl) ?_
    show Code.wpIn _ _ _ _ _ _ _
    refine seqX <| regionX rfl <| sv (fa61_3 rfl) <| sv (yLdB rfl isAgg59 (hS.at _) rfl) <| sv (yLen rfl underlying59) <| sv (yMove rfl) <| nil ?_
    show Code.wpIn _ _ _ _ _ _ _
    refine blockX ?_
    refine loopM (fun f ds w zz => ∃ (Ds : List Nat), ∃ (k : Nat) (v : Int) (prk : List ChX) (L : List Bx.Item), ds = Ds.map coll ∧ f 1 = ptQ i7 ∧ f 2 = ptQ i5 ∧ f 3 = ptQ i8 ∧ f 4 = ptQ i6 ∧ f 5 = ptQ i9 ∧ f 6 = ptQ b6 ∧ f 9 = ptQ b9 ∧ f 70 = .slice am (fct t.fcs (curOf t now c.length).toNat).members.length cm ∧ f 71 = .int .i64 ((fct t.fcs (curOf t now c.length).toNat).members.length : Int) ∧ f 72 = .int .i64 (k : Int) ∧ StX [] w0 w (packI (marks Ds) :: blk b9 [.int .i64 (fct t.fcs (curOf t now c.length).toNat).centre, .int .i64 (fct t.fcs (curOf t now c.length).toNat).issued, .int .i64 (fct t.fcs (curOf t now c.length).toNat).frm, .slice am (fct t.fcs (curOf t now c.length).toNat).members.length cm] 61 :: blk b6 [.func (.yield yl) #[] #[]] 212 :: blk i9 [.slice asv t.ticks.toNat csv] 121 :: blk i8 [.int .i64 many] 3 :: blk i7 [.int .i64 (c.length : Int)] 3 :: blk i6 (chC (c ++ [v])) 113 :: blk i5 [ptQ bk] 107 :: L) ∧ (k ≤ (fct t.fcs (curOf t now c.length).toNat).members.length) ∧ (Cb true (xs ++ prk) L) ∧ (prk.map (·.1) = chM t (curS t now) m c many sp (fct t.fcs (curOf t now c.length).toNat) k) ∧ zz = (fct t.fcs (curOf t now c.length).toNat).members.length - k) _ ⟨_, _, rfl, [D], 0, -1, [], L2, rfl, rfl, rfl, rfl, rfl, rfl, rfl, rfl, rfl, rfl, rfl, (chmark hS), (Nat.zero_le _), (by rw [List.append_nil]; exact hcb), (rfl), rfl⟩ ?_
    clear hS
    rintro f _ w _ ⟨Ds, k, v, prk, L, rfl, h1, h2, h3, h4, h5, h6, h9, h70, h71, h72, hS, hk, hcb, hzk, rfl⟩
    clear rd
    have rd : ∀ w, StX [] w0 w (packI (marks Ds) :: blk b9 [.int .i64 (fct t.fcs (curOf t now c.length).toNat).centre, .int .i64 (fct t.fcs (curOf t now c.length).toNat).issued, .int .i64 (fct t.fcs (curOf t now c.length).toNat).frm, .slice am (fct t.fcs (curOf t now c.length).toNat).members.length cm] 61 :: blk b6 [.func (.yield yl) #[] #[]] 212 :: blk i9 [.slice asv t.ticks.toNat csv] 121 :: blk i8 [.int .i64 many] 3 :: blk i7 [.int .i64 (c.length : Int)] 3 :: blk i6 (chC (c ++ [v])) 113 :: blk i5 [ptQ bk] 107 :: L) → RdC bk T [.int .i64 t.table.mean, cv, .slice ag t.gauges.length cg, .int .i64 t.wrong, .int .i64 t.frm, .int .i64 t.ticks, .slice ak t.ctrs.length ck, .slice ae t.fcs.length ce, .int .i64 t.least, .int .i64 t.most, .int .i64 t.rate, .int .i64 t.quorum, .int .i64 now, .slice aw t.ticks.toNat cw, .slice (some ⟨bq, oq, none⟩) t.ctrs.length cx, ov] t now aw (some ⟨bq, oq, none⟩) asv cw cx csv (sp) w := fun w hS => hRd _ w L [packI (marks Ds), blk b9 [.int .i64 (fct t.fcs (curOf t now c.length).toNat).centre, .int .i64 (fct t.fcs (curOf t now c.length).toNat).issued, .int .i64 (fct t.fcs (curOf t now c.length).toNat).frm, .slice am (fct t.fcs (curOf t now c.length).toNat).members.length cm] 61, blk b6 [.func (.yield yl) #[] #[]] 212, blk i9 [.slice asv t.ticks.toNat csv] 121, blk i8 [.int .i64 many] 3, blk i7 [.int .i64 (c.length : Int)] 3, blk i6 (chC (c ++ [v])) 113, blk i5 [ptQ bk] 107] hcb hS
    refine seqX <| regionX rfl <| sv (yLss h72 h71) <| nil ?_
    show Code.wpIn _ _ _ _ _ _ _
    refine seqX ?_
    refine condX rfl (fun c73 => ?_) (fun c73 => ?_)
    ·
     simp only [BS, ne_eq] at c73
     have hkl : k < (fct t.fcs (curOf t now c.length).toNat).members.length := by omega
     refine skipX ?_
     show Code.wpIn _ _ _ _ _ _ _
     refine seqX <| blockX <| seqX <| regionX rfl <| sv (yMove h72) <| sv (yAsg rfl) <| nil ?_
     show Code.wpIn _ _ _ _ _ _ _
     refine seqX <| regionX rfl <| sv (yLdB h1 isAgg3 (hS.at _) rfl) <| sv (yMove rfl) <| sv (Y.to (yIxA h4 rfl runUnderlying113 sizeOf3 (by omega) (by omega)) (congrArg (fun q => Value.pointer (some ⟨i6, q, none⟩)) (show 0 + ((c.length : Nat) : Int).toNat * 1 = c.length by omega))) ?_
     refine sst (vs := [.int .i64 (k : Int)]) hS rfl rfl sizeOf3 rfl rfl (by rw [Nat.ble_eq]; show c.length + 1 ≤ 4; omega) rfl ?_; clear hS; intro w hS; rw [chC_set2 v (k : Int) c (by omega)] at hS
     clear rd
     have rd : ∀ w A, (∀ it ∈ A, True) → StX [] w0 w (A ++ (packI (marks Ds) :: blk b9 [.int .i64 (fct t.fcs (curOf t now c.length).toNat).centre, .int .i64 (fct t.fcs (curOf t now c.length).toNat).issued, .int .i64 (fct t.fcs (curOf t now c.length).toNat).frm, .slice am (fct t.fcs (curOf t now c.length).toNat).members.length cm] 61 :: blk b6 [.func (.yield yl) #[] #[]] 212 :: blk i9 [.slice asv t.ticks.toNat csv] 121 :: blk i8 [.int .i64 many] 3 :: blk i7 [.int .i64 (c.length : Int)] 3 :: blk i6 (chC (c ++ [(k : Int)])) 113 :: blk i5 [ptQ bk] 107 :: L)) → RdC bk T [.int .i64 t.table.mean, cv, .slice ag t.gauges.length cg, .int .i64 t.wrong, .int .i64 t.frm, .int .i64 t.ticks, .slice ak t.ctrs.length ck, .slice ae t.fcs.length ce, .int .i64 t.least, .int .i64 t.most, .int .i64 t.rate, .int .i64 t.quorum, .int .i64 now, .slice aw t.ticks.toNat cw, .slice (some ⟨bq, oq, none⟩) t.ctrs.length cx, ov] t now aw (some ⟨bq, oq, none⟩) asv cw cx csv (sp) w := fun w A _ hS => hRd _ w L (A ++ [packI (marks Ds), blk b9 [.int .i64 (fct t.fcs (curOf t now c.length).toNat).centre, .int .i64 (fct t.fcs (curOf t now c.length).toNat).issued, .int .i64 (fct t.fcs (curOf t now c.length).toNat).frm, .slice am (fct t.fcs (curOf t now c.length).toNat).members.length cm] 61, blk b6 [.func (.yield yl) #[] #[]] 212, blk i9 [.slice asv t.ticks.toNat csv] 121, blk i8 [.int .i64 many] 3, blk i7 [.int .i64 (c.length : Int)] 3, blk i6 (chC (c ++ [(k : Int)])) 113, blk i5 [ptQ bk] 107]) hcb (by rw [List.append_assoc]; exact hS)
     refine nil ?_
     show Code.wpIn _ _ _ _ _ _ _
     refine seqX <| regionX rfl <| sv (yLdB h5 isAgg121 (hS.at _) rfl) ?_
     refine scall call120 (.cons rfl .nil) (c_CloneS (rd w [] (fun _ h => nomatch h) hS).2.2.2 hsl (by omega)) ?_
     rintro lv w hM; replace hS := hS.call1 hM; clear hM
     obtain ⟨gl, cl, rfl, -⟩ := row_some (hS.row lv) (by omega)
     refine sv (yAsg rfl) <| nil ?_
     show Code.wpIn _ _ _ _ _ _ _
     refine seqX <| regionX rfl <| sv (yMove rfl) <| sv (yLdB h2 isAgg107 (hS.at _) rfl) <| sv (yLdBA h9 isAgg61 sizeOf61 (hS.at _) rfl rfl) <| sv (yMove rfl) ?_
     refine scall call83 (.cons rfl (.cons rfl (.cons rfl .nil))) (c_tubeS ((rd w [_] (fun _ _ => trivial) hS).kn (RTable.stays _ _ _ _ hS.ext hT) (hG.ext RGauge.stays hS.ext) (hC.ext RCtr.stays hS.ext) (hF.ext RFct.stays hS.ext)) hok (hg.ext hS.ext) hfo hkl (hMm.ext RRow.stays hS.ext)) ?_
     rintro tv w hM; replace hS := hS.call1 hM; clear hM
     have htl := tubeS_lbd hok hfo hkl
     refine scall call82 (.cons rfl (.cons rfl .nil)) (c_meetS (o := 0) (ss := sp) (os := tubeS t (fct t.fcs (curOf t now c.length).toNat) (mem (fct t.fcs (curOf t now c.length).toNat) k)) (hS.perm (List.Perm.swap _ _ _)) (fun q w2 h2 => sl_spans (h2.row tv) (tubeS_len ..) (lbd_i64 htl)) (by rw [tubeS_len]; exact Nat.le_refl _) hsl (by omega) (by omega)) ?_
     rintro _ w ⟨-, hM⟩; clear hS; have hS := hM; clear hM
     rw [meetK_all (by rw [hsl, tubeS_len])] at hS
     replace hS := hS.sub (.cons_cons _ (.cons _ lrQ))
     have hll : (meetS sp (tubeS t (fct t.fcs (curOf t now c.length).toNat) (mem (fct t.fcs (curOf t now c.length).toNat) k))).length = t.ticks.toNat := by rw [meetS_len (by rw [hsl, tubeS_len])]; exact hsl
     have hlb : LBd 40000000 (meetS sp (tubeS t (fct t.fcs (curOf t now c.length).toNat) (mem (fct t.fcs (curOf t now c.length).toNat) k))) := meet_sbd (by rw [hsl, tubeS_len]) hsb htl
     refine nil ?_
     show Code.wpIn _ _ _ _ _ _ _
     refine seqX <| regionX rfl <| sv (yLdB h2 isAgg107 (hS.at _) rfl) <| sv (yLdBA h4 isAgg113 sizeOf113 (hS.at _) rfl rfl) <| sv (yLdB h1 isAgg3 (hS.at _) rfl) <| sv (Y.to (yAdd rfl rfl ⟨by omega, by omega⟩) (congrArg (Value.int .i64) (show (c.length : Int) + 1 = (((c ++ [(k : Int)]).length : Nat) : Int) by simp))) <| sv (yLdB h3 isAgg3 (hS.at _) rfl) <| sv (ySub rfl rfl ⟨by omega, by omega⟩) <| sv (yMove rfl) ?_
     refine scall call118 (.cons rfl (.cons rfl (.cons rfl (.cons rfl (.cons rfl .nil))))) (c_choices (c := c ++ [(k : Int)]) (nn := t.ticks.toNat)) ?_
     rintro _ w ⟨j5, j6, j7, j8, j9, rfl, hM⟩; replace hS := hS.call hM; clear hM
     refine nil ?_
     show Code.wpIn _ _ _ _ _ _ _
     refine blockX ?_
     refine rangeQ (R := [blk j9 [.slice (some ⟨gl, 0, none⟩) t.ticks.toNat cl] 121, blk j8 [.int .i64 (many - 1)] 3, blk j7 [.int .i64 ((c ++ [(k : Int)]).length : Int)] 3, blk j6 (chC (c ++ [(k : Int)])) 113, blk j5 [ptQ bk] 107]) (L0 := rowI (.slice (some ⟨gl, 0, none⟩) t.ticks.toNat cl) 74 2 t.ticks.toNat ((meetS sp (tubeS t (fct t.fcs (curOf t now c.length).toNat) (mem (fct t.fcs (curOf t now c.length).toNat) k))).flatMap spanC) :: packI (marks Ds) :: blk b9 [.int .i64 (fct t.fcs (curOf t now c.length).toNat).centre, .int .i64 (fct t.fcs (curOf t now c.length).toNat).issued, .int .i64 (fct t.fcs (curOf t now c.length).toNat).frm, .slice am (fct t.fcs (curOf t now c.length).toNat).members.length cm] 61 :: blk b6 [.func (.yield yl) #[] #[]] 212 :: blk i9 [.slice asv t.ticks.toNat csv] 121 :: blk i8 [.int .i64 many] 3 :: blk i7 [.int .i64 (c.length : Int)] 3 :: blk i6 (chC (c ++ [(k : Int)])) 113 :: blk i5 [ptQ bk] 107 :: L) (ps := [94, 95]) rfl call168 hS (IH m rfl (c ++ [(k : Int)]) (many - 1) (meetS sp (tubeS t (fct t.fcs (curOf t now c.length).toNat) (mem (fct t.fcs (curOf t now c.length).toNat) k))) (some ⟨gl, 0, none⟩) cl j5 j6 j7 j8 j9 (by simp; omega) (by omega) (by omega) hll hlb) (fun cc pre L => (cc = none ∧ ∃ L2, L = rowI (.slice (some ⟨gl, 0, none⟩) t.ticks.toNat cl) 74 2 t.ticks.toNat ((meetS sp (tubeS t (fct t.fcs (curOf t now c.length).toNat) (mem (fct t.fcs (curOf t now c.length).toNat) k))).flatMap spanC) :: packI (marks Ds) :: blk b9 [.int .i64 (fct t.fcs (curOf t now c.length).toNat).centre, .int .i64 (fct t.fcs (curOf t now c.length).toNat).issued, .int .i64 (fct t.fcs (curOf t now c.length).toNat).frm, .slice am (fct t.fcs (curOf t now c.length).toNat).members.length cm] 61 :: blk b6 [.func (.yield yl) #[] #[]] 212 :: blk i9 [.slice asv t.ticks.toNat csv] 121 :: blk i8 [.int .i64 many] 3 :: blk i7 [.int .i64 (c.length : Int)] 3 :: blk i6 (chC (c ++ [(k : Int)])) 113 :: blk i5 [ptQ bk] 107 :: L2 ∧ Cb true (xs ++ (prk ++ pre)) L2) ∨ (cc = some .ret ∧ ∃ L2, L = rowI (.slice (some ⟨gl, 0, none⟩) t.ticks.toNat cl) 74 2 t.ticks.toNat ((meetS sp (tubeS t (fct t.fcs (curOf t now c.length).toNat) (mem (fct t.fcs (curOf t now c.length).toNat) k))).flatMap spanC) :: packI (marks Ds) :: blk b9 [.int .i64 (fct t.fcs (curOf t now c.length).toNat).centre, .int .i64 (fct t.fcs (curOf t now c.length).toNat).issued, .int .i64 (fct t.fcs (curOf t now c.length).toNat).frm, .slice am (fct t.fcs (curOf t now c.length).toNat).members.length cm] 61 :: blk b6 [.func (.yield yl) #[] #[]] 212 :: blk i9 [.slice asv t.ticks.toNat csv] 121 :: blk i8 [.int .i64 many] 3 :: blk i7 [.int .i64 (c.length : Int)] 3 :: blk i6 (chC (c ++ [(k : Int)])) 113 :: blk i5 [ptQ bk] 107 :: L2 ∧ Cb false (xs ++ (prk ++ pre)) L2)) (.inl ⟨rfl, L, rfl, by rw [List.append_nil]; exact hcb⟩) (fun _ => rfl) (fun pre w L M hcb2 hS => by
      obtain ⟨-, L2, rfl, hcb3⟩ := hcb2.resolve_right (fun h => by cases h.1)
      have hr := hRd _ w L2 [rowI (.slice (some ⟨gl, 0, none⟩) t.ticks.toNat cl) 74 2 t.ticks.toNat ((meetS sp (tubeS t (fct t.fcs (curOf t now c.length).toNat) (mem (fct t.fcs (curOf t now c.length).toNat) k))).flatMap spanC), packI (marks Ds), blk b9 [.int .i64 (fct t.fcs (curOf t now c.length).toNat).centre, .int .i64 (fct t.fcs (curOf t now c.length).toNat).issued, .int .i64 (fct t.fcs (curOf t now c.length).toNat).frm, .slice am (fct t.fcs (curOf t now c.length).toNat).members.length cm] 61, blk b6 [.func (.yield yl) #[] #[]] 212, blk i9 [.slice asv t.ticks.toNat csv] 121, blk i8 [.int .i64 many] 3, blk i7 [.int .i64 (c.length : Int)] 3, blk i6 (chC (c ++ [(k : Int)])) 113, blk i5 [ptQ bk] 107] hcb3 (hS.sub (List.sublist_append_left _ M))
      exact ⟨hr.1, hr.2.1, hr.2.2.1, sl_spans ((hS.sub (List.sublist_append_left _ M)).row (.slice (some ⟨gl, 0, none⟩) t.ticks.toNat cl)) hll (lbd_i64 hlb)⟩) ?_ ?_ ?_
     ·
      clear hS
      intro yl2 pre x w L M M0 hT hsub hcb2 hS
      obtain ⟨-, L2, rfl, hcb⟩ := hcb2.resolve_right (fun h => by cases h.1)
      obtain ⟨hTp, hTs, hTl⟩ := hT.last
      obtain ⟨⟨xc, xs2⟩, xv⟩ := x
      obtain ⟨axv, cxv, hxv⟩ := hTs
      obtain rfl : xv = _ := hxv
      replace hS : StX [] w0 w (rowI (.slice (some ⟨gl, 0, none⟩) t.ticks.toNat cl) 74 2 t.ticks.toNat ((meetS sp (tubeS t (fct t.fcs (curOf t now c.length).toNat) (mem (fct t.fcs (curOf t now c.length).toNat) k))).flatMap spanC) :: packI (marks Ds) :: blk b9 [.int .i64 (fct t.fcs (curOf t now c.length).toNat).centre, .int .i64 (fct t.fcs (curOf t now c.length).toNat).issued, .int .i64 (fct t.fcs (curOf t now c.length).toNat).frm, .slice am (fct t.fcs (curOf t now c.length).toNat).members.length cm] 61 :: blk b6 [.func (.yield yl) #[] #[]] 212 :: blk i9 [.slice asv t.ticks.toNat csv] 121 :: blk i8 [.int .i64 many] 3 :: blk i7 [.int .i64 (c.length : Int)] 3 :: blk i6 (chC (c ++ [(k : Int)])) 113 :: blk i5 [ptQ bk] 107 :: (L2 ++ M)) := hS
      refine seqX <| regionX rfl ?_
      refine salloc hS zeroValue113 rfl ?_; clear hS; intro b12 w hS
      refine sst hS rfl rfl sizeOf113 rfl rfl rfl rfl ?_; clear hS; intro w hS
      refine nil ?_
      show Code.wpIn _ _ _ _ _ _ _
      refine regionX rfl <| sv (yAsg rfl) <| nil ?_
      refine ⟨_, blk b12 (chC xc) 113 :: rowI (.slice (some ⟨gl, 0, none⟩) t.ticks.toNat cl) 74 2 t.ticks.toNat ((meetS sp (tubeS t (fct t.fcs (curOf t now c.length).toNat) (mem (fct t.fcs (curOf t now c.length).toNat) k))).flatMap spanC) :: packI (marks Ds) :: blk b9 [.int .i64 (fct t.fcs (curOf t now c.length).toNat).centre, .int .i64 (fct t.fcs (curOf t now c.length).toNat).issued, .int .i64 (fct t.fcs (curOf t now c.length).toNat).frm, .slice am (fct t.fcs (curOf t now c.length).toNat).members.length cm] 61 :: blk b6 [.func (.yield yl) #[] #[]] 212 :: blk i9 [.slice asv t.ticks.toNat csv] 121 :: blk i8 [.int .i64 many] 3 :: blk i7 [.int .i64 (c.length : Int)] 3 :: blk i6 (chC (c ++ [(k : Int)])) 113 :: blk i5 [ptQ bk] 107 :: L2, rfl, hS, ?_⟩
      clear hS hsub; clear M; intro M w hsub hS; replace hS : StX [] w0 w (blk b12 (chC xc) 113 :: rowI (.slice (some ⟨gl, 0, none⟩) t.ticks.toNat cl) 74 2 t.ticks.toNat ((meetS sp (tubeS t (fct t.fcs (curOf t now c.length).toNat) (mem (fct t.fcs (curOf t now c.length).toNat) k))).flatMap spanC) :: packI (marks Ds) :: blk b9 [.int .i64 (fct t.fcs (curOf t now c.length).toNat).centre, .int .i64 (fct t.fcs (curOf t now c.length).toNat).issued, .int .i64 (fct t.fcs (curOf t now c.length).toNat).frm, .slice am (fct t.fcs (curOf t now c.length).toNat).members.length cm] 61 :: blk b6 [.func (.yield yl) #[] #[]] 212 :: blk i9 [.slice asv t.ticks.toNat csv] 121 :: blk i8 [.int .i64 many] 3 :: blk i7 [.int .i64 (c.length : Int)] 3 :: blk i6 (chC (c ++ [(k : Int)])) 113 :: blk i5 [ptQ bk] 107 :: (L2 ++ M)) := hS
      refine blockX <| seqX <| regionL <| preX 3 rfl <| sv (yLdB h6 isAgg212 (hS.at _) rfl) <| sv (yLdBA rfl isAgg113 sizeOf113 (hS.at _) rfl rfl) <| sv (yMove rfl) <| nil ?_
      show wpListIn _ _ _ _ _ _ _ _
      replace hS := hS.perm (perm_mid [blk b12 (chC xc) 113, rowI (.slice (some ⟨gl, 0, none⟩) t.ticks.toNat cl) 74 2 t.ticks.toNat ((meetS sp (tubeS t (fct t.fcs (curOf t now c.length).toNat) (mem (fct t.fcs (curOf t now c.length).toNat) k))).flatMap spanC), packI (marks Ds), blk b9 [.int .i64 (fct t.fcs (curOf t now c.length).toNat).centre, .int .i64 (fct t.fcs (curOf t now c.length).toNat).issued, .int .i64 (fct t.fcs (curOf t now c.length).toNat).frm, .slice am (fct t.fcs (curOf t now c.length).toNat).members.length cm] 61, blk b6 [.func (.yield yl) #[] #[]] 212, blk i9 [.slice asv t.ticks.toNat csv] 121, blk i8 [.int .i64 many] 3, blk i7 [.int .i64 (c.length : Int)] 3, blk i6 (chC (c ++ [(k : Int)])) 113, blk i5 [ptQ bk] 107] L2 M)
      refine yieldR rfl (.cons rfl (.cons rfl .nil)) (hY (xs ++ (prk ++ pre)) ((xc, xs2), .slice axv t.ticks.toNat cxv) _ L2 ([blk b12 (chC xc) 113, rowI (.slice (some ⟨gl, 0, none⟩) t.ticks.toNat cl) 74 2 t.ticks.toNat ((meetS sp (tubeS t (fct t.fcs (curOf t now c.length).toNat) (mem (fct t.fcs (curOf t now c.length).toNat) k))).flatMap spanC), packI (marks Ds), blk b9 [.int .i64 (fct t.fcs (curOf t now c.length).toNat).centre, .int .i64 (fct t.fcs (curOf t now c.length).toNat).issued, .int .i64 (fct t.fcs (curOf t now c.length).toNat).frm, .slice am (fct t.fcs (curOf t now c.length).toNat).members.length cm] 61, blk b6 [.func (.yield yl) #[] #[]] 212, blk i9 [.slice asv t.ticks.toNat csv] 121, blk i8 [.int .i64 many] 3, blk i7 [.int .i64 (c.length : Int)] 3, blk i6 (chC (c ++ [(k : Int)])) 113, blk i5 [ptQ bk] 107] ++ M) (ChT.mk (by exact ch_trace hmore (by rw [cur_at hcl]) hkl hz1 hzk hTp) ⟨_, _, rfl⟩ (fun w hw hr => hTl w (fun it hit => hw it (List.mem_append_right _ (hsub it hit))) ⟨hr.1, hr.2.1, hr.2.2.1, sl_spans (hw (rowI (.slice (some ⟨gl, 0, none⟩) t.ticks.toNat cl) 74 2 t.ticks.toNat ((meetS sp (tubeS t (fct t.fcs (curOf t now c.length).toNat) (mem (fct t.fcs (curOf t now c.length).toNat) k))).flatMap spanC)) (by simp)) hll (lbd_i64 hlb)⟩)) hcb hS) ?_
      clear hS hcb; rintro _ w ⟨bq, L3, rfl, hcb, hS⟩
      replace hS : StX [] w0 w (blk b12 (chC xc) 113 :: rowI (.slice (some ⟨gl, 0, none⟩) t.ticks.toNat cl) 74 2 t.ticks.toNat ((meetS sp (tubeS t (fct t.fcs (curOf t now c.length).toNat) (mem (fct t.fcs (curOf t now c.length).toNat) k))).flatMap spanC) :: packI (marks Ds) :: blk b9 [.int .i64 (fct t.fcs (curOf t now c.length).toNat).centre, .int .i64 (fct t.fcs (curOf t now c.length).toNat).issued, .int .i64 (fct t.fcs (curOf t now c.length).toNat).frm, .slice am (fct t.fcs (curOf t now c.length).toNat).members.length cm] 61 :: blk b6 [.func (.yield yl) #[] #[]] 212 :: blk i9 [.slice asv t.ticks.toNat csv] 121 :: blk i8 [.int .i64 many] 3 :: blk i7 [.int .i64 (c.length : Int)] 3 :: blk i6 (chC (c ++ [(k : Int)])) 113 :: blk i5 [ptQ bk] 107 :: (L3 ++ M)) := hS.perm (perm_mid [blk b12 (chC xc) 113, rowI (.slice (some ⟨gl, 0, none⟩) t.ticks.toNat cl) 74 2 t.ticks.toNat ((meetS sp (tubeS t (fct t.fcs (curOf t now c.length).toNat) (mem (fct t.fcs (curOf t now c.length).toNat) k))).flatMap spanC), packI (marks Ds), blk b9 [.int .i64 (fct t.fcs (curOf t now c.length).toNat).centre, .int .i64 (fct t.fcs (curOf t now c.length).toNat).issued, .int .i64 (fct t.fcs (curOf t now c.length).toNat).frm, .slice am (fct t.fcs (curOf t now c.length).toNat).members.length cm] 61, blk b6 [.func (.yield yl) #[] #[]] 212, blk i9 [.slice asv t.ticks.toNat csv] 121, blk i8 [.int .i64 many] 3, blk i7 [.int .i64 (c.length : Int)] 3, blk i6 (chC (c ++ [(k : Int)])) 113, blk i5 [ptQ bk] 107] L3 M).symm
      refine endX rfl <| sv (yNot rfl) <| nil ?_
      show Code.wpIn _ _ _ _ _ _ _
      refine condX rfl (fun c100 => ?_) (fun c100 => ?_)
      ·
       obtain rfl : bq = false := by cases bq; rfl; cases c100
       refine wpIn_ret (blockR ?_)
       exact ⟨_, (.inr ⟨rfl, L3, rfl, by rw [List.append_assoc, List.append_assoc] at hcb; exact hcb⟩), hS.sub (.cons _ lrQ)⟩
      ·
       obtain rfl : bq = true := by cases bq; cases c100; rfl
       refine skipX ?_
       exact ⟨_, (.inl ⟨rfl, L3, rfl, by rw [List.append_assoc, List.append_assoc] at hcb; exact hcb⟩), (hS.sub (.cons _ lrQ))⟩
     ·
      clear hS
      intro D2 w L xs3 hZ2 hcb hS
      have hcb0 := hcb.resolve_right (fun h => by cases h.1)
      clear hcb
      obtain ⟨-, L2, rfl, hcb⟩ := hcb0
      replace hS : StX [] w0 w (obj D2 (.deferred (some [])) :: rowI (.slice (some ⟨gl, 0, none⟩) t.ticks.toNat cl) 74 2 t.ticks.toNat ((meetS sp (tubeS t (fct t.fcs (curOf t now c.length).toNat) (mem (fct t.fcs (curOf t now c.length).toNat) k))).flatMap spanC) :: packI (marks Ds) :: blk b9 [.int .i64 (fct t.fcs (curOf t now c.length).toNat).centre, .int .i64 (fct t.fcs (curOf t now c.length).toNat).issued, .int .i64 (fct t.fcs (curOf t now c.length).toNat).frm, .slice am (fct t.fcs (curOf t now c.length).toNat).members.length cm] 61 :: blk b6 [.func (.yield yl) #[] #[]] 212 :: blk i9 [.slice asv t.ticks.toNat csv] 121 :: blk i8 [.int .i64 many] 3 :: blk i7 [.int .i64 (c.length : Int)] 3 :: blk i6 (chC (c ++ [(k : Int)])) 113 :: blk i5 [ptQ bk] 107 :: L2) := hS
      show Code.wpIn _ _ _ _ _ _ _
      refine regionX rfl <| sv (yAdd h72 rfl ⟨by omega, by omega⟩) <| sv (yMove rfl) <| nil ?_
      exact ⟨_, _, _, rfl, ⟨(D2 :: Ds), k + 1, (k : Int), prk ++ xs3, L2, rfl, h1, h2, h3, h4, h5, h6, h9, h70, h71, rfl, (chmarks hS), (by omega), (hcb), (by rw [List.map_append, hzk, show xs3.map (·.1) = _ from hZ2, chM_succ]), rfl⟩, by omega⟩
     ·
      intro D w L cc pre hcb hS
      have hcb0 := hcb.resolve_left (fun h => by cases h.1)
      clear hcb
      obtain ⟨hcc, L2, rfl, hcb⟩ := hcb0
      obtain rfl := Option.some.inj hcc
      replace hS : StX [] w0 w (obj D (.deferred (some [])) :: rowI (.slice (some ⟨gl, 0, none⟩) t.ticks.toNat cl) 74 2 t.ticks.toNat ((meetS sp (tubeS t (fct t.fcs (curOf t now c.length).toNat) (mem (fct t.fcs (curOf t now c.length).toNat) k))).flatMap spanC) :: packI (marks Ds) :: blk b9 [.int .i64 (fct t.fcs (curOf t now c.length).toNat).centre, .int .i64 (fct t.fcs (curOf t now c.length).toNat).issued, .int .i64 (fct t.fcs (curOf t now c.length).toNat).frm, .slice am (fct t.fcs (curOf t now c.length).toNat).members.length cm] 61 :: blk b6 [.func (.yield yl) #[] #[]] 212 :: blk i9 [.slice asv t.ticks.toNat csv] 121 :: blk i8 [.int .i64 many] 3 :: blk i7 [.int .i64 (c.length : Int)] 3 :: blk i6 (chC (c ++ [(k : Int)])) 113 :: blk i5 [ptQ bk] 107 :: L2) := hS
      replace hS := chmarks hS
      refine wpIn_ret (blockR (blockR (thenR (thenR (blockR ?_)))))
      refine leafM hS (fun w hS => (results_none rfl _ _ _)) (fun w hS => ?_)
      exact ⟨L2, hS.sub (.cons _ (.cons _ (.cons _ (.cons _ (.cons _ (.cons _ (.cons _ lrQ))))))), .inr ⟨_, hcb⟩⟩
    ·
     simp only [BS, ne_eq] at c73
     obtain rfl : k = (fct t.fcs (curOf t now c.length).toNat).members.length := by omega
     refine exitX ?_
     show bodyPostM (FX none) 0 _ _ _ .normal _ _
     refine leafM hS (fun w hS => (results_none rfl _ _ _)) (fun w hS => ?_)
     exact ⟨L, hS.sub (.cons _ (.cons _ (.cons _ (.cons _ (.cons _ (.cons _ (.cons _ lrQ))))))), .inl ⟨xs ++ prk, ch_whole hmore (by rw [cur_at hcl]) hz1 hzk, hcb⟩⟩
  ·
   intro D w L cc pre hcb hS
   have hcb0 := hcb.resolve_left (fun h => by cases h.1)
   clear hcb
   obtain ⟨hcc, L2, rfl, hcb⟩ := hcb0
   obtain rfl := Option.some.inj hcc
   replace hS : StX [] w0 w (obj D (.deferred (some [])) :: blk b6 [.func (.yield yl) #[] #[]] 212 :: blk i9 [.slice asv t.ticks.toNat csv] 121 :: blk i8 [.int .i64 many] 3 :: blk i7 [.int .i64 (c.length : Int)] 3 :: blk i6 (chC (c ++ [-1])) 113 :: blk i5 [ptQ bk] 107 :: L2) := hS
   refine wpIn_ret (blockR (thenR ?_))
   refine leafD hS (fun w hS => (results_none rfl _ _ _)) (fun w hS => ?_)
   exact ⟨L2, hS.sub (.cons _ (.cons _ (.cons _ (.cons _ (.cons _ (.cons _ (.cons _ lrQ))))))), .inr ⟨_, hcb⟩⟩
theorem it_choices {t : Sgt} {now : Int} {cv ov : Value} {ag ak ae aw ax : Option Addr} {cg ck ce cw cx bk : Nat} {T : TypeId} {w0 : World} (h : RSgt w0 (scQ t cv ag ak ae cg ck ce) t) (hok : SgOk t) (hnow : Bd now 0 200000) (hg : Glb w0) : ∀ n, ItCh w0 t now cv ov ag ak ae aw ax cg ck ce cw cx bk T n
 | 0 => fun c many sp asv csv i5 i6 i7 i8 i9 hcn hm0 hm4 hsl hsb => it_chstep h hok hnow hg (fun m hm => by omega) hcn hm0 hm4 hsl hsb
 | n + 1 => fun c many sp asv csv i5 i6 i7 i8 i9 hcn hm0 hm4 hsl hsb => it_chstep h hok hnow hg (fun m hm => by
   obtain rfl : n = m := by omega
   exact it_choices h hok hnow hg n) hcn hm0 hm4 hsl hsb
end Go.Proofs.YtgidbailiababaaGreatDoor

/- part S14 -/
namespace Bx
open Go Go.RowKit
section
variable {t : Sgt} {now : Int}
theorem cho_of {tr : List ChX} {x : ChX} (h : (tr ++ [x]).map (·.1) <+: choS t now) : x.1 ∈ choS t now :=
  h.subset (by simp)
theorem cho_facts (h : SgOk t) {x : List Int × List Span} (hx : x ∈ choS t now) : x.1.length = t.ctrs.length ∧ x.2.length = t.ticks.toNat ∧ LBd 40000000 x.2 ∧ ∀ y ∈ x.1, I64 y := by
  refine ⟨?_, cho_len x hx, ch_lbd h _ _ _ _ (baseS_len t now) (baseS_lbd h now) x hx, ch_mem h _ _ _ _ (fun y hy => by cases hy) x hx⟩
  obtain ⟨d, h1, h2⟩ := ch_pre _ _ _ _ _ x hx
  rw [h1]; simpa using h2
abbrev bl (t : Sgt) (tr : List ChX) : List Bo := boxL t (tr.map (·.1))
theorem bl_no {tr : List ChX} {xc : List Int} {xs : List Span} {v : Value} (h : someT t.rate xs = false) : bl t (tr ++ [((xc, xs), v)]) = bl t tr := by
  unfold bl
  rw [List.map_append, List.map_singleton, boxL_snoc, h]; simp
theorem bl_yes {tr : List ChX} {xc : List Int} {xs : List Span} {v : Value} (h : someT t.rate xs = true) : bl t (tr ++ [((xc, xs), v)]) = bl t tr ++ [⟨xc, tightS t.rate xs⟩] := by
  unfold bl
  rw [List.map_append, List.map_singleton, boxL_snoc, h]; simp
theorem bl_bd (h : SgOk t) {tr : List ChX} {x : ChX} (hp : (tr ++ [x]).map (·.1) <+: choS t now) : (bl t tr).length < 626 := by
  have h1 := cho_bd (now := now) h
  have h2 := hp.length_le
  have h3 : (bl t tr).length ≤ (tr.map (·.1)).length := boxL_len
  rw [List.length_map] at h2 h3
  simp at h2
  omega
theorem bl_all {tr : List ChX} (hz : ChZ (choS t now) tr) : bl t tr = boxS t now := by
  unfold bl
  rw [show tr.map (·.1) = choS t now from hz]; rfl
theorem tides_lbd (h : SgOk t) : LBd 40000000 (tidesS t) := fun i hi => by
  rw [tidesS_len] at hi
  rw [spn_at (tidesS_get hi)]
  exact (tide_sbd h i).mono (by decide)
end
theorem packPush {w0 w : World} {v : Value} {z : List Int} {vs : List Value} {zs : List (List Int)} {L : List Item} (hl : vs.length = zs.length) (h : StX [] w0 w (inR v z :: packI (inI vs zs) :: L)) : StX [] w0 w (packI (inI (vs ++ [v]) (zs ++ [z])) :: L) := by
  rw [inI_snoc hl]
  exact h.packs
theorem bx_push {w0 w : World} {x1 x2 x3 x4 x5 RV : Item} {vm vl vh : Value} {zm zl zh : List Int} {ms ls hs : List Value} {zms zls zhs : List (List Int)} {L : List Item} (h1 : ms.length = zms.length) (h2 : ls.length = zls.length) (h3 : hs.length = zhs.length)
    (h : StX [] w0 w (x1 :: inR vm zm :: x2 :: x3 :: inR vl zl :: inR vh zh :: x4 :: x5 :: RV :: packI (inI ms zms) :: packI (inI ls zls) :: packI (inI hs zhs) :: L)) :
    StX [] w0 w (RV :: packI (inI (ms ++ [vm]) (zms ++ [zm])) :: packI (inI (ls ++ [vl]) (zls ++ [zl])) :: packI (inI (hs ++ [vh]) (zhs ++ [zh])) :: L) := by
  have k0 : StX [] w0 w (inR vm zm :: inR vl zl :: inR vh zh :: RV :: packI (inI ms zms) :: packI (inI ls zls) :: packI (inI hs zhs) :: L) :=
    h.sub (.cons _ (.cons_cons _ (.cons _ (.cons _ (.cons_cons _ (.cons_cons _ (.cons _ (.cons _ (List.Sublist.refl _)))))))))
  have k1 : StX [] w0 w (inR vm zm :: packI (inI ms zms) :: (inR vl zl :: inR vh zh :: RV :: packI (inI ls zls) :: packI (inI hs zhs) :: L)) := k0.perm (List.Perm.cons _ (List.perm_middle (l₁ := [_, _, _])))
  have k2 : StX [] w0 w (inR vl zl :: packI (inI ls zls) :: (packI (inI (ms ++ [vm]) (zms ++ [zm])) :: inR vh zh :: RV :: packI (inI hs zhs) :: L)) :=
    (packPush h1 k1).perm ((List.perm_middle (l₁ := [_]) (l₂ := _) (a := inR vl zl)).trans (List.Perm.cons _ (List.perm_middle (l₁ := [_, _, _]))))
  have k3 : StX [] w0 w (inR vh zh :: packI (inI hs zhs) :: (packI (inI (ls ++ [vl]) (zls ++ [zl])) :: packI (inI (ms ++ [vm]) (zms ++ [zm])) :: RV :: L)) :=
    (packPush h2 k2).perm ((List.perm_middle (l₁ := [_, _]) (l₂ := _) (a := inR vh zh)).trans (List.Perm.cons _ (List.perm_middle (l₁ := [_, _, _]))))
  have k4 := packPush h3 k3
  refine k4.perm ?_
  refine (List.perm_middle (l₁ := [_, _, _]) (a := RV) (l₂ := L)).trans (List.Perm.cons _ ?_)
  exact tight_swap _ _ _ _
theorem bxEnd {w0 w : World} {frm : Int} {bs : List Bo} (b : Bo) {nc nt : Nat} {E : TypeId} {x1 x2 x3 x4 x5 : Item} {v m l h : Value} {ms ls hs : List Value} {L : List Item} (hnc : b.mem.length = nc) (hnl : (lowB b).length = nt) (hnh : (highB b).length = nt)
    (h1 : ms.length = bs.length) (h2 : ls.length = bs.length) (h3 : hs.length = bs.length)
    (hS : StX [] w0 w (x1 :: rowI m 3 1 nc (b.mem.flatMap encI) :: x2 :: x3 :: rowI l 3 1 nt ((lowB b).flatMap encI) :: rowI h 3 1 nt ((highB b).flatMap encI) :: x4 :: x5 :: rowI v E 9 (bs.length + 1) ((bxCs frm (bs.map Bo.mem) ms ls hs).flatten ++ bxC frm b.mem m l h) :: packI (inI ms (bs.map Bo.mem)) :: packI (inI ls (bs.map lowB)) :: packI (inI hs (bs.map highB)) :: L)) :
    StX [] w0 w (rowI v E 9 (bs ++ [b]).length (bxCs frm ((bs ++ [b]).map Bo.mem) (ms ++ [m]) (ls ++ [l]) (hs ++ [h])).flatten :: packI (inI (ms ++ [m]) ((bs ++ [b]).map Bo.mem)) :: packI (inI (ls ++ [l]) ((bs ++ [b]).map lowB)) :: packI (inI (hs ++ [h]) ((bs ++ [b]).map highB)) :: L) := by
  subst hnc
  rw [List.map_append, List.map_append, List.map_append, List.map_singleton, List.map_singleton, List.map_singleton, bxCs_snoc frm b.mem m l h (by simp [h1]) (by simp [h2]) (by simp [h3]), List.flatten_append, List.flatten_singleton, List.length_append, List.length_singleton]
  have e2 : inR l (lowB b) = rowI l 3 1 nt ((lowB b).flatMap encI) := by unfold inR; rw [hnl]
  have e3 : inR h (highB b) = rowI h 3 1 nt ((highB b).flatMap encI) := by unfold inR; rw [hnh]
  rw [← e2, ← e3] at hS
  exact bx_push (by simp [h1]) (by simp [h2]) (by simp [h3]) hS
theorem cho_cells {w : World} {b n : Nat} {T : TypeId} {xc : List Int} (h : w.heap[b]? = some (.cells (chC xc).toArray T (0, 0))) (hl : xc.length = n) (hn : n ≤ 4) : Cells w b 0 (xc.flatMap encI) := by
  rw [← chC_take xc (by omega)]
  intro j u hj
  rw [List.getElem?_take] at hj
  split at hj
  · exact blk_cells h j u hj
  · cases hj
end Bx

