/- Merged texts, part 6. -/
import Derived.Test.YtgidbailiababaaGreatDoorQ5
import Derived.Test.YtgidbailiababaaGreatDoorProg
import Derived.Test.YtgidbailiababaaGreatDoorRows
import Derived.ChangeSame
import Derived.ChangeVars
import Derived.ChangeArms
import Derived.JoinedOf
import Derived.RowKit
import Derived.FnData
import Derived.LaidLaws
import Derived.LaidHandle
import Derived.Stop.Joined
set_option linter.all false
/- part Sy1 -/
namespace Go.Proofs.YtgidbailiababaaGreatDoor
open Go Bx
set_option maxHeartbeats 1000000 in
theorem c_rgausS {t : Sgt} {cs : List Value} {w0 : World} (h : RSgt w0 cs t) : CV Tryz.prog 60 #[.agg cs.toArray] w0 (.tuple #[.int .i64 (gausE t).1, .int .i64 (gausE t).2]) := by
 obtain ⟨cv, gv, tv, fv, rfl, hT, hG, hw64, hf64, hk64, hC, hF, hl64, hm64, hr64, hq64⟩ := id h
 obtain ⟨ag, cg, rfl, hgcap, hgmx, hgel⟩ := id hG
 obtain ⟨ak, ck, rfl, hkcap, hkmx, hkel⟩ := id hC
 obtain ⟨ae, ce, rfl, hecap, hemx, heel⟩ := id hF
 refine enter Tryz.func60 rfl Tryz.ntmps60 rfl ?_
 have hS := St.start w0
 refine seq <| region ?_
 refine sbox hS rfl rfl ?_; clear hS; intro b1 w hS
 refine sv (yAsg rfl) <| sv (yAsg rfl) <| nil <| cwQ <| seq <| seq <| region <| sv (fa29_1 rfl) <| sv (yLdB rfl Tryz.isAgg25 (hS.at _) rfl) ?_
 refine sv (yLen rfl Tryz.underlying25) <| sv (yGtr rfl rfl) <| nil <| cwQ ?_
 refine cond rfl (fun c12 => ?_) (fun c12 => ?_)
 ·
  simp only [BS, ne_eq] at c12
  refine seq <| region <| sv (yAsg rfl) <| sv (yAsg rfl) <| nil <| cwQ ?_
  have hfin : gausE t = (0, 3) := by unfold gausE; rw [if_pos c12]
  refine wp_ret (thenR ?_)
  exact retV (res2 rfl (by rw [hfin]; rfl) (by rw [hfin]; rfl)) hS.ext
 ·
  simp only [BS, ne_eq] at c12
  refine skip <| cwQ <| seq <| seq <| region <| sv (yAsg rfl) <| nil <| cwQ <| block ?_
  refine loop (fun f w zz => ∃ (k : Nat), f 1 = .pointer (some ⟨b1, 0, none⟩) ∧ f 4 = .int .i64 (k : Int) ∧ StX [] w0 w [blk b1 [.int .i64 t.table.mean, cv, .slice ag t.gauges.length cg, .int .i64 t.wrong, .int .i64 t.frm, .int .i64 t.ticks, .slice ak t.ctrs.length ck, .slice ae t.fcs.length ce, .int .i64 t.least, .int .i64 t.most, .int .i64 t.rate, .int .i64 t.quorum] 29] ∧ (k ≤ t.gauges.length) ∧ (firstN (gE t.gauges) t.gauges.length 0 = firstN (gE t.gauges) (t.gauges.length - k) k) ∧ zz = t.gauges.length - k) _ ⟨_, rfl, 0, rfl, rfl, hS, (Nat.zero_le _), (rfl), rfl⟩ ?_
  clear hS
  rintro f w _ ⟨k, h1, h4, hS, hk, hI, rfl⟩
  refine seq <| seq <| region <| sv (yMove h4) <| sv (fa29_1 h1) <| sv (yLdB rfl Tryz.isAgg25 (hS.at _) rfl) <| sv (yLen rfl Tryz.underlying25) <| sv (yLss rfl rfl) <| nil ?_
  refine cwQ ?_
  refine cond rfl (fun c17 => ?_) (fun c17 => ?_)
  ·
   simp only [BS, ne_eq] at c17
   have hkl : k < t.gauges.length := by omega
   obtain ⟨bg, og, csg, hag, hlng, hcg, hRg, -⟩ := sl_at hG (gau_get (l := t.gauges) (i := k) (by omega))
   obtain ⟨dv, rv, rfl, hgn, -⟩ := id hRg
   refine skip <| cwQ <| seq <| block <| seq <| region <| sv (fa29_1 h1) <| sv (yLdB rfl Tryz.isAgg25 (hS.at _) rfl) <| sv (yMove h4) ?_
   refine sv (yIxa rfl hag rfl Tryz.runUnderlying25 Tryz.sizeOf68 (by omega) (by omega)) <| sv (yLdA rfl Tryz.isAgg68 Tryz.sizeOf68 (hcg.ext hS.ext) hlng) ?_
   refine scall Tryz.call116 (.cons rfl .nil) (c_rCheckGauge (hRg.ext hS.ext)) ?_
   rintro _ w ⟨rfl, hE⟩; replace hS := hS.step hE; clear hE
   refine sv (yMove rfl) <| sv (yExt rfl rfl) <| sv (yExt rfl rfl) <| sv (yExt rfl rfl) <| sv (yAsg rfl) <| sv (yAsg rfl) <| sv (yAsg rfl) <| nil <| cwQ ?_
   refine seq <| seq <| region <| sv (yAsg rfl) <| nil <| cwQ <| block <| loop (fun f w zz => ∃ (j : Nat) (E : Int), f 1 = .pointer (some ⟨b1, 0, none⟩) ∧ f 4 = .int .i64 (k : Int) ∧ f 7 = .int .i64 E ∧ f 8 = .int .i64 (j : Int) ∧ StX [] w0 w [blk b1 [.int .i64 t.table.mean, cv, .slice ag t.gauges.length cg, .int .i64 t.wrong, .int .i64 t.frm, .int .i64 t.ticks, .slice ak t.ctrs.length ck, .slice ae t.fcs.length ce, .int .i64 t.least, .int .i64 t.most, .int .i64 t.rate, .int .i64 t.quorum] 29] ∧ (j ≤ k) ∧ (E = rE t.gauges (gau t.gauges k) j) ∧ zz = k - j) _ ⟨_, rfl, 0, _, h1, h4, rfl, rfl, hS, (Nat.zero_le _), (rE_0.symm), rfl⟩ ?_
   clear hS
   rintro f w _ ⟨j, E, h1, h4, h7, h8, hS, hj, hE, rfl⟩
   refine seq <| seq <| region <| sv (yMove h8) <| sv (yMove h4) <| sv (yLss rfl rfl) <| sv (yMove rfl) ?_
   refine sg rfl rfl rfl (fun g => (yMove h7)) (fun v34 g34 => ?_)
   refine sg rfl rfl rfl (fun g => (yEql (g34.1 g) rfl)) (fun v35 g35 => ?_)
   refine sv (yAnd rfl (fun hB => (g35.1 hB)) rfl) <| nil <| cwQ ?_
   refine cond rfl (fun c36 => ?_) (fun c36 => ?_)
   ·
    simp only [BS, ne_eq] at c36
    have hjk : j < k := by omega
    have he0 : E = 0 := c36.2
    obtain ⟨bj, oj, csj, haj, hlnj, hcj, hRj, -⟩ := sl_at hG (gau_get (l := t.gauges) (i := j) (by omega))
    obtain ⟨dvj, rvj, rfl, -⟩ := hRj
    refine skip <| cwQ <| seq <| block <| seq <| region_draw mixed (by kernel_rfl) hS <| qv (fun w hS => (fa29_1 h1)) <| qv (fun w hS => (yLdB rfl Tryz.isAgg25 (hS.at _) rfl)) <| qv (fun w hS => (yMove h8)) ?_
    refine qv (fun w hS => (yIxa rfl haj rfl Tryz.runUnderlying25 Tryz.sizeOf68 (by omega) (by omega))) <| qv (fun w hS => (fa68_0 rfl)) <| qv (fun w hS => (yLd rfl Tryz.isAgg9 ((hcj.ext hS.ext).at (j := 0) rfl))) <| qv (fun w hS => (fa29_1 h1)) <| qv (fun w hS => (yLdB rfl Tryz.isAgg25 (hS.at _) rfl)) <| qv (fun w hS => (yMove h4)) <| qv (fun w hS => (yIxa rfl hag rfl Tryz.runUnderlying25 Tryz.sizeOf68 (by omega) (by omega))) <| qv (fun w hS => (fa68_0 rfl)) <| qv (fun w hS => (yLd rfl Tryz.isAgg9 ((hcg.ext hS.ext).at (j := 0) rfl))) ?_
    refine qv (fun w hS => (ySEq rfl rfl)) ?_
    clear hS; refine qnil (fun w hS => ?_)
    refine cwQ ?_
    refine cond rfl (fun c51 => ?_) (fun c51 => ?_)
    ·
     simp only [BS, ne_eq] at c51
     refine region <| sv (yAsg rfl) <| nil <| cwQ <| region <| sv (yMove h8) <| sv (yAdd rfl rfl ⟨by omega, by omega⟩) <| sv (yAsg rfl) <| nil ?_
     exact ⟨_, _, rfl, ⟨j + 1, _, h1, h4, rfl, rfl, hS, (by omega), ((rE_yes (hE.symm.trans he0) (gau_get (by omega)) c51).symm), rfl⟩, by omega⟩
    ·
     simp only [BS, ne_eq] at c51
     refine skip <| cwQ <| region <| sv (yMove h8) <| sv (yAdd rfl rfl ⟨by omega, by omega⟩) <| sv (yAsg rfl) <| nil ?_
     exact ⟨_, _, rfl, ⟨j + 1, _, h1, h4, h7, rfl, hS, (by omega), (by rw [rE_no (hE.symm.trans he0) (gau_get (by omega)) c51]; exact he0), rfl⟩, by omega⟩
   ·
    simp only [BS, ne_eq] at c36
    have hEi : E = rE t.gauges (gau t.gauges k) k := by
     by_cases h0 : E = 0
     ·
      obtain rfl : j = k := by omega
      exact hE
     ·
      rw [rE_stop (by rw [← hE]; exact h0) hj]; exact hE
    refine exit <| cwQ <| seq <| region <| sv (yMove h7) <| sv (yNeq rfl rfl) <| nil <| cwQ ?_
    refine cond rfl (fun c53 => ?_) (fun c53 => ?_)
    ·
     simp only [BS, ne_eq] at c53
     refine seq <| region <| sv (yMove h4) <| sv (yMove h7) <| sv (yAsg rfl) <| sv (yAsg rfl) <| nil <| cwQ ?_
     have hN : firstN (gE t.gauges) t.gauges.length 0 = ((k : Int), E) := by rw [hI, firstN_at (by omega) (by rw [gE_rE, ← hEi]; exact c53), gE_rE, ← hEi]
     have hfin : gausE t = ((k : Int), E) := by unfold gausE; rw [if_neg c12, if_pos (by rw [hN]; exact c53), hN]
     refine wp_ret (blockR (thenR (thenR (blockR (thenR ?_)))))
     exact retV (res2 rfl (by rw [hfin]; rfl) (by rw [hfin]; rfl)) hS.ext
    ·
     simp only [BS, ne_eq] at c53
     refine skip <| cwQ <| region <| sv (yMove h4) <| sv (yAdd rfl rfl ⟨by omega, by omega⟩) <| sv (yAsg rfl) <| nil ?_
     exact ⟨_, _, rfl, ⟨k + 1, h1, rfl, hS, (by omega), (by rw [hI]; exact firstN_go (by omega) (by rw [gE_rE]; exact (hEi.symm.trans (by omega)))), rfl⟩, by omega⟩
  ·
   simp only [BS, ne_eq] at c17
   obtain rfl : k = t.gauges.length := by omega
   have he : (firstN (gE t.gauges) t.gauges.length 0).2 = 0 := by rw [hI, Nat.sub_self]; rfl
   refine exit <| cwQ <| seq <| seq <| region <| sv (fa29_2 h1) <| sv (yLdB rfl Tryz.isAgg3 (hS.at _) rfl) <| sv (fa29_1 h1) <| sv (yLdB rfl Tryz.isAgg25 (hS.at _) rfl) ?_
   refine sv (yLen rfl Tryz.underlying25) <| sv (ySub rfl rfl ⟨by omega, by omega⟩) <| sv (yMax rfl rfl) ?_
   refine scall Tryz.call58 (.cons rfl (.cons rfl (.cons rfl .nil))) c_inS ?_
   rintro _ w ⟨rfl, hE⟩; replace hS := hS.step hE; clear hE
   refine sv (yNot rfl) <| nil <| cwQ ?_
   refine cond rfl (fun c64 => ?_) (fun c64 => ?_)
   ·
    rw [wrong_in] at c64
    refine seq <| region <| sv (yAsg rfl) <| sv (yAsg rfl) <| nil <| cwQ ?_
    have hfin : gausE t = (0, 7) := by unfold gausE; rw [if_neg c12, if_neg (fun k => k he), if_pos c64]
    refine wp_ret (thenR ?_)
    exact retV (res2 rfl (by rw [hfin]; rfl) (by rw [hfin]; rfl)) hS.ext
   ·
    rw [wrong_in] at c64
    refine skip <| cwQ <| seq <| region <| sv (yAsg rfl) <| sv (yAsg rfl) <| nil <| cwQ ?_
    have hfin : gausE t = (0, 0) := by unfold gausE; rw [if_neg c12, if_neg (fun k => k he), if_neg (by rw [c64]; decide)]
    refine wp_ret ?_
    exact retV (res2 rfl (by rw [hfin]; rfl) (by rw [hfin]; rfl)) hS.ext
set_option maxHeartbeats 1000000 in
theorem c_rcentS {t : Sgt} {cs : List Value} {i : Nat} {w0 : World} (h : RSgt w0 cs t) (hi : i < t.ctrs.length) : CV Tryz.prog 61 #[.agg cs.toArray, .int .i64 (i : Int)] w0 (.int .i64 (cE t.ctrs i)) := by
 obtain ⟨cv, gv, tv, fv, rfl, hT, hG, hw64, hf64, hk64, hC, hF, hl64, hm64, hr64, hq64⟩ := id h
 obtain ⟨ag, cg, rfl, hgcap, hgmx, hgel⟩ := id hG
 obtain ⟨ak, ck, rfl, hkcap, hkmx, hkel⟩ := id hC
 obtain ⟨ae, ce, rfl, hecap, hemx, heel⟩ := id hF
 obtain ⟨bx, ox, cx, hax, hlx, hcx, hRx, -⟩ := sl_at hC (ctr_get hi)
 obtain ⟨rfl, hnm, -⟩ := hRx
 refine enter Tryz.func61 rfl Tryz.ntmps61 rfl ?_
 have hS := St.start w0
 refine seq <| region ?_
 refine sbox hS rfl rfl ?_; clear hS; intro b2 w hS
 refine sv (yAsg rfl) <| nil <| cwQ <| seq <| region <| sv (fa29_5 rfl) <| sv (yLdB rfl Tryz.isAgg26 (hS.at _) rfl) <| sv (yMove rfl) <| sv (yIxa rfl hax rfl Tryz.runUnderlying26 Tryz.sizeOf57 (by omega) (by omega)) ?_
 refine sv (yLdA rfl Tryz.isAgg57 Tryz.sizeOf57 (hcx.ext hS.ext) rfl) ?_
 refine salloc hS Tryz.zeroValue57 rfl ?_; clear hS; intro b5 w hS
 refine sst hS rfl rfl Tryz.sizeOf57 rfl rfl rfl rfl ?_; clear hS; intro w hS
 refine nil <| cwQ <| seq <| seq <| region <| sv (fa57_0 rfl) <| sv (yLdB rfl Tryz.isAgg9 (hS.at _) rfl) ?_
 refine scall Tryz.call117 (.cons rfl .nil) (c_rName hnm) ?_
 rintro _ w ⟨rfl, hE⟩; replace hS := hS.step hE; clear hE
 refine sv (yNot rfl) <| nil <| cwQ ?_
 refine cond rfl (fun c15 => ?_) (fun c15 => ?_)
 ·
  refine seq <| region <| sv (yAsg rfl) <| nil <| cwQ ?_
  refine wp_ret (thenR ?_)
  exact retV (res1 rfl (eqI (by unfold cE; rw [if_pos c15]))) hS.ext
 ·
  refine skip <| cwQ <| seq <| seq <| region <| sv (yAsg rfl) <| nil <| cwQ <| block ?_
  refine loop (fun f w zz => ∃ (k : Nat), f 1 = .int .i64 (i : Int) ∧ f 2 = .pointer (some ⟨b2, 0, none⟩) ∧ f 5 = .pointer (some ⟨b5, 0, none⟩) ∧ f 6 = .int .i64 (k : Int) ∧ StX [] w0 w [blk b5 (ctrC (ctr t.ctrs i)) 57, blk b2 [.int .i64 t.table.mean, cv, .slice ag t.gauges.length cg, .int .i64 t.wrong, .int .i64 t.frm, .int .i64 t.ticks, .slice ak t.ctrs.length ck, .slice ae t.fcs.length ce, .int .i64 t.least, .int .i64 t.most, .int .i64 t.rate, .int .i64 t.quorum] 29] ∧ (k ≤ i) ∧ (((t.ctrs.take k).any fun x => decide (x.name = (ctr t.ctrs i).name)) = false) ∧ zz = i - k) _ ⟨_, rfl, 0, rfl, rfl, rfl, rfl, hS, (Nat.zero_le _), (rfl), rfl⟩ ?_
  clear hS
  rintro f w _ ⟨k, h1, h2, h5, h6, hS, hk, hM, rfl⟩
  refine seq <| seq <| region <| sv (yMove h6) <| sv (yMove h1) <| sv (yLss rfl rfl) <| nil <| cwQ ?_
  refine cond rfl (fun c18 => ?_) (fun c18 => ?_)
  ·
   simp only [BS, ne_eq] at c18
   have hkl : k < i := by omega
   obtain ⟨by2, oy, cy, hay, -, hcy, hRy, -⟩ := sl_at hC (ctr_get (l := t.ctrs) (i := k) (by omega))
   obtain ⟨rfl, -⟩ := hRy
   refine skip <| cwQ <| seq <| block <| seq <| region_draw mixed (by kernel_rfl) hS <| qv (fun w hS => (fa29_5 h2)) <| qv (fun w hS => (yLdB rfl Tryz.isAgg26 (hS.at _) rfl)) <| qv (fun w hS => (yMove h6)) ?_
   refine qv (fun w hS => (yIxa rfl hay rfl Tryz.runUnderlying26 Tryz.sizeOf57 (by omega) (by omega))) <| qv (fun w hS => (fa57_0 rfl)) <| qv (fun w hS => (yLd rfl Tryz.isAgg9 ((hcy.ext hS.ext).at (j := 0) rfl))) <| qv (fun w hS => (fa57_0 h5)) <| qv (fun w hS => (yLdB rfl Tryz.isAgg9 (hS.at _) rfl)) <| qv (fun w hS => (ySEq rfl rfl)) ?_
   clear hS; refine qnil (fun w hS => ?_)
   refine cwQ ?_
   refine cond rfl (fun c29 => ?_) (fun c29 => ?_)
   ·
    simp only [BS, ne_eq] at c29
    refine seq <| region <| sv (yAsg rfl) <| nil <| cwQ ?_
    refine wp_ret (blockR (thenR (thenR (blockR (thenR ?_)))))
    exact retV (res1 rfl (eqI (by unfold cE; rw [if_neg (by rw [c15]; decide), if_pos (any_take_yes (ctr_get (show k < t.ctrs.length by omega)) hkl (decide_eq_true c29))]))) hS.ext
   ·
    simp only [BS, ne_eq] at c29
    refine skip <| cwQ <| region <| sv (yMove h6) <| sv (yAdd rfl rfl ⟨by omega, by omega⟩) <| sv (yAsg rfl) <| nil ?_
    exact ⟨_, _, rfl, ⟨k + 1, h1, h2, h5, rfl, hS, (by omega), (any_take_no (ctr_get (by omega)) hM (decide_eq_false c29)), rfl⟩, by omega⟩
  ·
   simp only [BS, ne_eq] at c18
   have hki : k = i := by omega
   rw [hki] at hM
   refine exit <| cwQ <| seq <| seq <| region <| sv (fa57_1 h5) <| sv (yLdB rfl Tryz.isAgg3 (hS.at _) rfl) ?_
   refine scall Tryz.call58 (.cons rfl (.cons rfl (.cons rfl .nil))) c_inS ?_
   rintro _ w ⟨rfl, hE⟩; replace hS := hS.step hE; clear hE
   refine sv (yNot rfl) <| sv (yMove rfl) ?_
   refine sg rfl rfl rfl (fun g => (fa57_2 h5)) (fun v35 g35 => ?_)
   refine sg rfl rfl rfl (fun g => (yLdB (g35.1 g) Tryz.isAgg3 (hS.at _) rfl)) (fun v36 g36 => ?_)
   refine sgc hS rfl rfl rfl Tryz.call58 (fun g => (.cons (g36.1 g) (.cons rfl (.cons rfl .nil)))) (fun g => c_inS) ?_; clear hS; intro v37 w hS g37
   refine sg rfl rfl rfl (fun g => (yNot (g37.1 g))) (fun v38 g38 => ?_)
   refine sv (yOr rfl rfl (fun hB => (g38.1 hB))) <| sv (yMove rfl) ?_
   refine sg rfl rfl rfl (fun g => (fa57_3 h5)) (fun v41 g41 => ?_)
   refine sg rfl rfl rfl (fun g => (yLdB (g41.1 g) Tryz.isAgg3 (hS.at _) rfl)) (fun v42 g42 => ?_)
   refine sgc hS rfl rfl rfl Tryz.call58 (fun g => (.cons (g42.1 g) (.cons rfl (.cons rfl .nil)))) (fun g => c_inS) ?_; clear hS; intro v43 w hS g43
   refine sg rfl rfl rfl (fun g => (yNot (g43.1 g))) (fun v44 g44 => ?_)
   refine sv (yOr rfl rfl (fun hB => (g44.1 hB))) <| nil <| cwQ ?_
   refine cond rfl (fun c45 => ?_) (fun c45 => ?_)
   ·
    rw [inB_not, inB_not, inB_not] at c45
    refine seq <| region <| sv (yAsg rfl) <| nil <| cwQ ?_
    refine wp_ret (thenR ?_)
    exact retV (res1 rfl (eqI (by unfold cE; rw [if_neg (by rw [c15]; decide), if_neg (by rw [hM]; decide), if_pos (show ctrB (ctr t.ctrs i) = true from c45)]))) hS.ext
   ·
    rw [inB_not, inB_not, inB_not] at c45
    refine skip <| cwQ <| seq <| region <| sv (yAsg rfl) <| nil <| cwQ <| wp_ret ?_
    exact retV (res1 rfl (eqI (by unfold cE; rw [if_neg (by rw [c15]; decide), if_neg (by rw [hM]; decide), if_neg (by rw [show ctrB (ctr t.ctrs i) = false from c45]; decide)]))) hS.ext
theorem c_rtickS {a : Int} {w0 : World} : CV Tryz.prog 80 #[.int .i64 a] w0 (.bool (inB a 0 200000)) := by
 refine enter Tryz.func80 rfl Tryz.ntmps80 rfl ?_
 have hS := St.start w0
 refine seq <| region <| sv (yAsg rfl) <| nil <| cwQ <| seq <| region <| sv (yMove rfl) ?_
 refine scall Tryz.call58 (.cons rfl (.cons rfl (.cons rfl .nil))) c_inS ?_
 rintro _ w ⟨rfl, hE⟩; replace hS := hS.step hE; clear hE
 refine sv (yAsg rfl) <| nil <| cwQ <| wp_ret ?_
 exact retV (res1 rfl rfl) hS.ext
set_option maxHeartbeats 2000000 in
theorem c_rforeS {t : Sgt} {cs : List Value} {i : Nat} {w0 : World} (h : RSgt w0 cs t) (hi : i < t.fcs.length) : CV Tryz.prog 62 #[.agg cs.toArray, .int .i64 (i : Int)] w0 (.int .i64 (fE t.ctrs.length t.fcs i)) := by
 obtain ⟨cv, gv, tv, fv, rfl, hT, hG, hw64, hf64, hk64, hC, hF, hl64, hm64, hr64, hq64⟩ := id h
 obtain ⟨ag, cg, rfl, hgcap, hgmx, hgel⟩ := id hG
 obtain ⟨ak, ck, rfl, hkcap, hkmx, hkel⟩ := id hC
 obtain ⟨ae, ce, rfl, hecap, hemx, heel⟩ := id hF
 obtain ⟨bx, ox, cx, hax, hlx, hcx, hRx, -⟩ := sl_at hF (fct_get hi)
 obtain ⟨mv, rfl, hf1, hf2, hf3, hM⟩ := id hRx
 obtain ⟨am, cm, rfl, hmcap, hmmx, hmel⟩ := id hM
 refine enter Tryz.func62 rfl Tryz.ntmps62 rfl ?_
 have hS := St.start w0
 refine seq <| region ?_
 refine sbox hS rfl rfl ?_; clear hS; intro b2 w hS
 refine sv (yAsg rfl) <| nil <| cwQ <| seq <| region <| sv (fa29_6 rfl) <| sv (yLdB rfl Tryz.isAgg27 (hS.at _) rfl) <| sv (yMove rfl) <| sv (yIxa rfl hax rfl Tryz.runUnderlying27 Tryz.sizeOf61 (by omega) (by omega)) ?_
 refine sv (yLdA rfl Tryz.isAgg61 Tryz.sizeOf61 (hcx.ext hS.ext) rfl) ?_
 refine salloc hS Tryz.zeroValue61 rfl ?_; clear hS; intro b5 w hS
 refine sst hS rfl rfl Tryz.sizeOf61 rfl rfl rfl rfl ?_; clear hS; intro w hS
 refine nil <| cwQ <| seq <| seq <| region <| sv (fa61_0 rfl) <| sv (yLdB rfl Tryz.isAgg3 (hS.at _) rfl) <| sv (fa29_5 rfl) <| sv (yLdB rfl Tryz.isAgg26 (hS.at _) rfl) ?_
 refine sv (yLen rfl Tryz.underlying26) <| sv (ySub rfl rfl ⟨by omega, by omega⟩) ?_
 refine scall Tryz.call58 (.cons rfl (.cons rfl (.cons rfl .nil))) c_inS ?_
 rintro _ w ⟨rfl, hE⟩; replace hS := hS.step hE; clear hE
 refine sv (yNot rfl) <| nil <| cwQ ?_
 refine cond rfl (fun c23 => ?_) (fun c23 => ?_)
 ·
  rw [inB_not] at c23
  refine seq <| region <| sv (yAsg rfl) <| nil <| cwQ ?_
  refine wp_ret (thenR ?_)
  exact retV (res1 rfl (eqI (by unfold fE; rw [if_pos c23]))) hS.ext
 ·
  rw [inB_not] at c23
  refine skip <| cwQ <| seq <| seq <| region <| sv (fa61_1 rfl) <| sv (yLdB rfl Tryz.isAgg3 (hS.at _) rfl) ?_
  refine scall Tryz.call80 (.cons rfl .nil) c_rtickS ?_
  rintro _ w ⟨rfl, hE⟩; replace hS := hS.step hE; clear hE
  refine sv (yNot rfl) <| sv (yMove rfl) ?_
  refine sg rfl rfl rfl (fun g => (fa61_2 rfl)) (fun v29 g29 => ?_)
  refine sg rfl rfl rfl (fun g => (yLdB (g29.1 g) Tryz.isAgg3 (hS.at _) rfl)) (fun v30 g30 => ?_)
  refine sgc hS rfl rfl rfl Tryz.call80 (fun g => (.cons (g30.1 g) .nil)) (fun g => c_rtickS) ?_; clear hS; intro v31 w hS g31
  refine sg rfl rfl rfl (fun g => (yNot (g31.1 g))) (fun v32 g32 => ?_)
  refine sv (yOr rfl rfl (fun hB => (g32.1 hB))) <| nil <| cwQ ?_
  refine cond rfl (fun c33 => ?_) (fun c33 => ?_)
  ·
   rw [inB_not, inB_not] at c33
   refine seq <| region <| sv (yAsg rfl) <| nil <| cwQ ?_
   refine wp_ret (thenR ?_)
   exact retV (res1 rfl (eqI (by unfold fE; rw [if_neg (by rw [c23]; decide), if_pos c33]))) hS.ext
  ·
   rw [inB_not, inB_not] at c33
   refine skip <| cwQ <| seq <| seq <| region <| sv (fa61_3 rfl) <| sv (yLdB rfl Tryz.isAgg59 (hS.at _) rfl) <| sv (yLen rfl Tryz.underlying59) ?_
   refine scall Tryz.call58 (.cons rfl (.cons rfl (.cons rfl .nil))) c_inS ?_
   rintro _ w ⟨rfl, hE⟩; replace hS := hS.step hE; clear hE
   refine sv (yNot rfl) <| nil <| cwQ ?_
   refine cond rfl (fun c38 => ?_) (fun c38 => ?_)
   ·
    rw [inB_not] at c38
    refine seq <| region <| sv (yAsg rfl) <| nil <| cwQ ?_
    refine wp_ret (thenR ?_)
    exact retV (res1 rfl (eqI (by unfold fE; rw [if_neg (by rw [c23]; decide), if_neg (by rw [c33]; decide), if_pos (longM_in c38)]))) hS.ext
   ·
    rw [inB_not] at c38
    refine skip <| cwQ <| seq <| seq <| region <| sv (yAsg rfl) <| nil <| cwQ <| block ?_
    refine loop (fun f w zz => ∃ (k : Nat), f 1 = .int .i64 (i : Int) ∧ f 2 = .pointer (some ⟨b2, 0, none⟩) ∧ f 5 = .pointer (some ⟨b5, 0, none⟩) ∧ f 6 = .int .i64 (k : Int) ∧ StX [] w0 w [blk b5 [.int .i64 (fct t.fcs i).centre, .int .i64 (fct t.fcs i).issued, .int .i64 (fct t.fcs i).frm, .slice am (fct t.fcs i).members.length cm] 61, blk b2 [.int .i64 t.table.mean, cv, .slice ag t.gauges.length cg, .int .i64 t.wrong, .int .i64 t.frm, .int .i64 t.ticks, .slice ak t.ctrs.length ck, .slice ae t.fcs.length ce, .int .i64 t.least, .int .i64 t.most, .int .i64 t.rate, .int .i64 t.quorum] 29] ∧ (k ≤ (fct t.fcs i).members.length) ∧ ((((fct t.fcs i).members.take k).any fun l => outB l.length 1 200) = false) ∧ zz = (fct t.fcs i).members.length - k) _ ⟨_, rfl, 0, rfl, rfl, rfl, rfl, hS, (Nat.zero_le _), (rfl), rfl⟩ ?_
    clear hS
    rintro f w _ ⟨k, h1, h2, h5, h6, hS, hk, hA, rfl⟩
    refine seq <| seq <| region <| sv (yMove h6) <| sv (fa61_3 h5) <| sv (yLdB rfl Tryz.isAgg59 (hS.at _) rfl) <| sv (yLen rfl Tryz.underlying59) <| sv (yLss rfl rfl) <| nil ?_
    refine cwQ ?_
    refine cond rfl (fun c43 => ?_) (fun c43 => ?_)
    ·
     simp only [BS, ne_eq] at c43
     have hkl : k < (fct t.fcs i).members.length := by omega
     obtain ⟨bp, op, csp, hap, -, hcp, hRp, -⟩ := sl_at hM (show (fct t.fcs i).members[k]? = some (mem (fct t.fcs i) k) by simp [mem, show k < (fct t.fcs i).members.length by omega])
     obtain ⟨vp, rfl, hvp⟩ := hRp
     obtain ⟨ap, np, rfl, hcapp, hmxp, -⟩ := id hvp
     refine skip <| cwQ <| seq <| block <| seq <| region <| sv (fa61_3 h5) <| sv (yLdB rfl Tryz.isAgg59 (hS.at _) rfl) <| sv (yMove h6) ?_
     refine sv (yIxa rfl hap rfl Tryz.runUnderlying59 Tryz.sizeOf39 (by omega) (by omega)) <| sv (yLd rfl Tryz.isAgg39 (hcp.ext hS.ext).one) <| sv (yLen rfl Tryz.underlying39) ?_
     refine scall Tryz.call58 (.cons rfl (.cons rfl (.cons rfl .nil))) c_inS ?_
     rintro _ w ⟨rfl, hE⟩; replace hS := hS.step hE; clear hE
     refine sv (yNot rfl) <| nil <| cwQ ?_
     refine cond rfl (fun c53 => ?_) (fun c53 => ?_)
     ·
      rw [inB_not] at c53
      refine seq <| region <| sv (yAsg rfl) <| nil <| cwQ ?_
      refine wp_ret (blockR (thenR (thenR (blockR (thenR ?_)))))
      exact retV (res1 rfl (eqI (by unfold fE; rw [if_neg (by rw [c23]; decide), if_neg (by rw [c33]; decide), if_pos (longM_one (any_yes (mem_at (show k < (fct t.fcs i).members.length by omega)) c53))]))) hS.ext
     ·
      rw [inB_not] at c53
      refine skip <| cwQ <| region <| sv (yMove h6) <| sv (yAdd rfl rfl ⟨by omega, by omega⟩) <| sv (yAsg rfl) <| nil ?_
      exact ⟨_, _, rfl, ⟨k + 1, h1, h2, h5, rfl, hS, (by omega), (any_take_no (mem_at (show k < (fct t.fcs i).members.length by omega)) hA c53), rfl⟩, by omega⟩
    ·
     simp only [BS, ne_eq] at c43
     have hkk : k = (fct t.fcs i).members.length := by omega
     rw [hkk, List.take_length] at hA
     refine exit <| cwQ <| seq <| seq ?_
     have z1 := hA
     clear hA
     refine cutK (fun f => f 1 = .int .i64 (i : Int) ∧ f 2 = .pointer (some ⟨b2, 0, none⟩) ∧ f 5 = .pointer (some ⟨b5, 0, none⟩) ∧ True) ⟨h1, h2, h5, trivial⟩ ?_
     rintro f ⟨h1, h2, h5, -⟩
     refine region <| sv (yAsg rfl) <| nil <| cwQ <| block <| loop (fun f w zz => ∃ (k : Nat), f 1 = .int .i64 (i : Int) ∧ f 2 = .pointer (some ⟨b2, 0, none⟩) ∧ f 5 = .pointer (some ⟨b5, 0, none⟩) ∧ f 7 = .int .i64 (k : Int) ∧ StX [] w0 w [blk b5 [.int .i64 (fct t.fcs i).centre, .int .i64 (fct t.fcs i).issued, .int .i64 (fct t.fcs i).frm, .slice am (fct t.fcs i).members.length cm] 61, blk b2 [.int .i64 t.table.mean, cv, .slice ag t.gauges.length cg, .int .i64 t.wrong, .int .i64 t.frm, .int .i64 t.ticks, .slice ak t.ctrs.length ck, .slice ae t.fcs.length ce, .int .i64 t.least, .int .i64 t.most, .int .i64 t.rate, .int .i64 t.quorum] 29] ∧ (k ≤ (fct t.fcs i).members.length) ∧ ((((fct t.fcs i).members.take k).any fun l => decide ((l.length : Int) ≠ ((fct t.fcs i).members.getD 0 []).length)) = false) ∧ zz = (fct t.fcs i).members.length - k) _ ⟨_, rfl, 0, h1, h2, h5, rfl, hS, (Nat.zero_le _), (rfl), rfl⟩ ?_
     clear hS
     rintro f w _ ⟨k, h1, h2, h5, h7, hS, hk, hA, rfl⟩
     refine seq <| seq <| region <| sv (yMove h7) <| sv (fa61_3 h5) <| sv (yLdB rfl Tryz.isAgg59 (hS.at _) rfl) <| sv (yLen rfl Tryz.underlying59) <| sv (yLss rfl rfl) <| nil ?_
     refine cwQ ?_
     refine cond rfl (fun c58 => ?_) (fun c58 => ?_)
     ·
      simp only [BS, ne_eq] at c58
      have hkl : k < (fct t.fcs i).members.length := by omega
      obtain ⟨bp, op, csp, hap, -, hcp, hRp, -⟩ := sl_at hM (show (fct t.fcs i).members[k]? = some (mem (fct t.fcs i) k) by simp [mem, show k < (fct t.fcs i).members.length by omega])
      obtain ⟨vp, rfl, hvp⟩ := hRp
      obtain ⟨ap, np, rfl, hcapp, hmxp, -⟩ := id hvp
      obtain ⟨bz, oz, csz, haz, -, hcz, hRz, -⟩ := sl_at hM (show (fct t.fcs i).members[0]? = some (mem (fct t.fcs i) 0) by simp [mem, show 0 < (fct t.fcs i).members.length by omega])
      obtain ⟨vz, rfl, hvz⟩ := hRz
      obtain ⟨az, nz, rfl, hcapz, hmxz, -⟩ := id hvz
      refine skip <| cwQ <| seq <| block <| seq <| region_draw mixed (by kernel_rfl) hS <| qv (fun w hS => (fa61_3 h5)) <| qv (fun w hS => (yLdB rfl Tryz.isAgg59 (hS.at _) rfl)) <| qv (fun w hS => (yMove h7)) ?_
      refine qv (fun w hS => (yIxa rfl hap rfl Tryz.runUnderlying59 Tryz.sizeOf39 (by omega) (by omega))) <| qv (fun w hS => (yLd rfl Tryz.isAgg39 (hcp.ext hS.ext).one)) <| qv (fun w hS => (yLen rfl Tryz.underlying39)) <| qv (fun w hS => (fa61_3 h5)) <| qv (fun w hS => (yLdB rfl Tryz.isAgg59 (hS.at _) rfl)) <| qv (fun w hS => (yIxa (m := 0) rfl haz rfl Tryz.runUnderlying59 Tryz.sizeOf39 (by omega) (by omega))) <| qv (fun w hS => (yLd rfl Tryz.isAgg39 (hcz.ext hS.ext).one)) <| qv (fun w hS => (yLen rfl Tryz.underlying39)) <| qv (fun w hS => (yNeq rfl rfl)) ?_
      clear hS; refine qnil (fun w hS => ?_)
      refine cwQ ?_
      refine cond rfl (fun c72 => ?_) (fun c72 => ?_)
      ·
       simp only [BS, ne_eq, ne_eq, Decidable.not_not] at c72
       refine seq <| region <| sv (yAsg rfl) <| nil <| cwQ ?_
       refine wp_ret (blockR (thenR (thenR (blockR (thenR ?_)))))
       exact retV (res1 rfl (eqI (by unfold fE; rw [if_neg (by rw [c23]; decide), if_neg (by rw [c33]; decide), if_neg (by rw [longM_no c38 z1]; decide), if_pos (show sameM (fct t.fcs i) = true from any_yes (mem_at (show k < (fct t.fcs i).members.length by omega)) (decide_eq_true c72))]))) hS.ext
      ·
       simp only [BS, ne_eq, ne_eq, Decidable.not_not] at c72
       refine skip <| cwQ <| region <| sv (yMove h7) <| sv (yAdd rfl rfl ⟨by omega, by omega⟩) <| sv (yAsg rfl) <| nil ?_
       exact ⟨_, _, rfl, ⟨k + 1, h1, h2, h5, rfl, hS, (by omega), (any_take_no (mem_at (show k < (fct t.fcs i).members.length by omega)) hA (decide_eq_false (fun hh => hh c72))), rfl⟩, by omega⟩
     ·
      simp only [BS, ne_eq] at c58
      have hkk : k = (fct t.fcs i).members.length := by omega
      rw [hkk, List.take_length] at hA
      refine exit <| cwQ <| seq <| seq ?_
      have z2 := hA
      clear hA
      refine cutK (fun f => f 1 = .int .i64 (i : Int) ∧ f 2 = .pointer (some ⟨b2, 0, none⟩) ∧ f 5 = .pointer (some ⟨b5, 0, none⟩) ∧ True) ⟨h1, h2, h5, trivial⟩ ?_
      rintro f ⟨h1, h2, h5, -⟩
      refine region <| sv (yAsg rfl) <| nil <| cwQ <| block <| loop (fun f w zz => ∃ (k : Nat), f 1 = .int .i64 (i : Int) ∧ f 2 = .pointer (some ⟨b2, 0, none⟩) ∧ f 5 = .pointer (some ⟨b5, 0, none⟩) ∧ f 8 = .int .i64 (k : Int) ∧ StX [] w0 w [blk b5 [.int .i64 (fct t.fcs i).centre, .int .i64 (fct t.fcs i).issued, .int .i64 (fct t.fcs i).frm, .slice am (fct t.fcs i).members.length cm] 61, blk b2 [.int .i64 t.table.mean, cv, .slice ag t.gauges.length cg, .int .i64 t.wrong, .int .i64 t.frm, .int .i64 t.ticks, .slice ak t.ctrs.length ck, .slice ae t.fcs.length ce, .int .i64 t.least, .int .i64 t.most, .int .i64 t.rate, .int .i64 t.quorum] 29] ∧ (k ≤ (fct t.fcs i).members.length) ∧ ((((fct t.fcs i).members.take k).flatten.any fun v => outB v (-10000) 10000) = false) ∧ zz = (fct t.fcs i).members.length - k) _ ⟨_, rfl, 0, h1, h2, h5, rfl, hS, (Nat.zero_le _), (rfl), rfl⟩ ?_
      clear hS
      rintro f w _ ⟨k, h1, h2, h5, h8, hS, hk, hA, rfl⟩
      refine seq <| seq <| region <| sv (yMove h8) <| sv (fa61_3 h5) <| sv (yLdB rfl Tryz.isAgg59 (hS.at _) rfl) <| sv (yLen rfl Tryz.underlying59) <| sv (yLss rfl rfl) <| nil ?_
      refine cwQ ?_
      refine cond rfl (fun c77 => ?_) (fun c77 => ?_)
      ·
       simp only [BS, ne_eq] at c77
       have hkl : k < (fct t.fcs i).members.length := by omega
       obtain ⟨bp, op, csp, hap, -, hcp, hRp, -⟩ := sl_at hM (show (fct t.fcs i).members[k]? = some (mem (fct t.fcs i) k) by simp [mem, show k < (fct t.fcs i).members.length by omega])
       obtain ⟨vp, rfl, hvp⟩ := hRp
       obtain ⟨ap, np, rfl, hcapp, hmxp, -⟩ := id hvp
       refine skip <| cwQ <| seq <| block <| seq <| region <| sv (yAsg rfl) <| nil <| cwQ ?_
       refine block <| loop (fun f w zz => ∃ (j : Nat), f 1 = .int .i64 (i : Int) ∧ f 2 = .pointer (some ⟨b2, 0, none⟩) ∧ f 5 = .pointer (some ⟨b5, 0, none⟩) ∧ f 8 = .int .i64 (k : Int) ∧ f 9 = .int .i64 (j : Int) ∧ StX [] w0 w [blk b5 [.int .i64 (fct t.fcs i).centre, .int .i64 (fct t.fcs i).issued, .int .i64 (fct t.fcs i).frm, .slice am (fct t.fcs i).members.length cm] 61, blk b2 [.int .i64 t.table.mean, cv, .slice ag t.gauges.length cg, .int .i64 t.wrong, .int .i64 t.frm, .int .i64 t.ticks, .slice ak t.ctrs.length ck, .slice ae t.fcs.length ce, .int .i64 t.least, .int .i64 t.most, .int .i64 t.rate, .int .i64 t.quorum] 29] ∧ (j ≤ (mem (fct t.fcs i) k).length) ∧ ((((mem (fct t.fcs i) k).take j).any fun v => outB v (-10000) 10000) = false) ∧ zz = (mem (fct t.fcs i) k).length - j) _ ⟨_, rfl, 0, h1, h2, h5, h8, rfl, hS, (Nat.zero_le _), (rfl), rfl⟩ ?_
       clear hS
       rintro f w _ ⟨j, h1, h2, h5, h8, h9, hS, hj, hB, rfl⟩
       refine seq <| seq <| region <| sv (yMove h9) <| sv (fa61_3 h5) <| sv (yLdB rfl Tryz.isAgg59 (hS.at _) rfl) <| sv (yMove h8) <| sv (yIxa rfl hap rfl Tryz.runUnderlying59 Tryz.sizeOf39 (by omega) (by omega)) <| sv (yLd rfl Tryz.isAgg39 (hcp.ext hS.ext).one) ?_
       refine sv (yLen rfl Tryz.underlying39) <| sv (yLss rfl rfl) <| nil <| cwQ ?_
       refine cond rfl (fun c87 => ?_) (fun c87 => ?_)
       ·
        simp only [BS, ne_eq] at c87
        have hjl : j < (mem (fct t.fcs i) k).length := by omega
        have hje : (mem (fct t.fcs i) k)[j]? = some ((mem (fct t.fcs i) k).getD j 0) := by simp [List.getD, hjl]
        obtain ⟨bq, oq, cq, haq, -, hcq, hRq, -⟩ := sl_at hvp hje
        obtain ⟨rfl, -⟩ := hRq
        refine skip <| cwQ <| seq <| block <| seq <| region <| sv (fa61_3 h5) <| sv (yLdB rfl Tryz.isAgg59 (hS.at _) rfl) <| sv (yMove h8) ?_
        refine sv (yIxa rfl hap rfl Tryz.runUnderlying59 Tryz.sizeOf39 (by omega) (by omega)) <| sv (yLd rfl Tryz.isAgg39 (hcp.ext hS.ext).one) <| sv (yMove h9) <| sv (yIxa rfl haq rfl Tryz.runUnderlying39 Tryz.sizeOf3 (by omega) (by omega)) <| sv (yLd rfl Tryz.isAgg3 (hcq.ext hS.ext).one) ?_
        refine scall Tryz.call58 (.cons rfl (.cons rfl (.cons rfl .nil))) c_inS ?_
        rintro _ w ⟨rfl, hE⟩; replace hS := hS.step hE; clear hE
        refine sv (yNot rfl) <| nil <| cwQ ?_
        refine cond rfl (fun c99 => ?_) (fun c99 => ?_)
        ·
         rw [inB_not] at c99
         refine seq <| region <| sv (yAsg rfl) <| nil <| cwQ ?_
         refine wp_ret (blockR (thenR (thenR (blockR (blockR (thenR (thenR (blockR (thenR ?_)))))))))
         exact retV (res1 rfl (eqI (by unfold fE; rw [if_neg (by rw [c23]; decide), if_neg (by rw [c33]; decide), if_neg (by rw [longM_no c38 z1]; decide), if_neg (by rw [show sameM (fct t.fcs i) = false from z2]; decide), if_pos (show farM (fct t.fcs i) = true from flat_yes (mem_at (show k < (fct t.fcs i).members.length by omega)) hje c99)]))) hS.ext
        ·
         rw [inB_not] at c99
         refine skip <| cwQ <| region <| sv (yMove h9) <| sv (yAdd rfl rfl ⟨by omega, by omega⟩) <| sv (yAsg rfl) <| nil ?_
         exact ⟨_, _, rfl, ⟨j + 1, h1, h2, h5, h8, rfl, hS, (by omega), (any_take_no hje hB c99), rfl⟩, by omega⟩
       ·
        simp only [BS, ne_eq] at c87
        have hjj : j = (mem (fct t.fcs i) k).length := by omega
        rw [hjj, List.take_length] at hB
        refine exit <| cwQ <| region <| sv (yMove h8) <| sv (yAdd rfl rfl ⟨by omega, by omega⟩) <| sv (yAsg rfl) <| nil ?_
        exact ⟨_, _, rfl, ⟨k + 1, h1, h2, h5, rfl, hS, (by omega), (flat_no (mem_at (show k < (fct t.fcs i).members.length by omega)) hA hB), rfl⟩, by omega⟩
      ·
       simp only [BS, ne_eq] at c77
       have hkk : k = (fct t.fcs i).members.length := by omega
       rw [hkk, List.take_length] at hA
       refine exit <| cwQ <| seq <| seq ?_
       have z3 := hA
       clear hA
       refine cutK (fun f => f 1 = .int .i64 (i : Int) ∧ f 2 = .pointer (some ⟨b2, 0, none⟩) ∧ f 5 = .pointer (some ⟨b5, 0, none⟩) ∧ True) ⟨h1, h2, h5, trivial⟩ ?_
       rintro f ⟨h1, h2, h5, -⟩
       refine region <| sv (yAsg rfl) <| nil <| cwQ <| block <| loop (fun f w zz => ∃ (k : Nat), f 1 = .int .i64 (i : Int) ∧ f 2 = .pointer (some ⟨b2, 0, none⟩) ∧ f 5 = .pointer (some ⟨b5, 0, none⟩) ∧ f 10 = .int .i64 (k : Int) ∧ StX [] w0 w [blk b5 [.int .i64 (fct t.fcs i).centre, .int .i64 (fct t.fcs i).issued, .int .i64 (fct t.fcs i).frm, .slice am (fct t.fcs i).members.length cm] 61, blk b2 [.int .i64 t.table.mean, cv, .slice ag t.gauges.length cg, .int .i64 t.wrong, .int .i64 t.frm, .int .i64 t.ticks, .slice ak t.ctrs.length ck, .slice ae t.fcs.length ce, .int .i64 t.least, .int .i64 t.most, .int .i64 t.rate, .int .i64 t.quorum] 29] ∧ (k ≤ i) ∧ (((t.fcs.take k).any fun x => decide (x.centre = (fct t.fcs i).centre) && decide (x.issued = (fct t.fcs i).issued)) = false) ∧ zz = i - k) _ ⟨_, rfl, 0, h1, h2, h5, rfl, hS, (Nat.zero_le _), (rfl), rfl⟩ ?_
       clear hS
       rintro f w _ ⟨k, h1, h2, h5, h10, hS, hk, hA, rfl⟩
       refine seq <| seq <| region <| sv (yMove h10) <| sv (yMove h1) <| sv (yLss rfl rfl) <| nil <| cwQ ?_
       refine cond rfl (fun c102 => ?_) (fun c102 => ?_)
       ·
        simp only [BS, ne_eq] at c102
        have hkl : k < i := by omega
        obtain ⟨bq, oq, cq, haq, -, hcq, hRq, -⟩ := sl_at hF (fct_get (l := t.fcs) (i := k) (by omega))
        obtain ⟨mvq, rfl, -⟩ := hRq
        refine skip <| cwQ <| seq <| block <| seq <| region_draw mixed (by kernel_rfl) hS <| qv (fun w hS => (fa29_6 h2)) <| qv (fun w hS => (yLdB rfl Tryz.isAgg27 (hS.at _) rfl)) <| qv (fun w hS => (yMove h10)) ?_
        refine qv (fun w hS => (yIxa rfl haq rfl Tryz.runUnderlying27 Tryz.sizeOf61 (by omega) (by omega))) <| qv (fun w hS => (fa61_0 rfl)) <| qv (fun w hS => (yLd rfl Tryz.isAgg3 ((hcq.ext hS.ext).at (j := 0) rfl))) <| qv (fun w hS => (fa61_0 h5)) <| qv (fun w hS => (yLdB rfl Tryz.isAgg3 (hS.at _) rfl)) <| qv (fun w hS => (yEql rfl rfl)) <| qv (fun w hS => (yMove rfl)) ?_
        refine qg rfl rfl rfl (fun g w hS => (fa29_6 h2)) (fun v115 g115 => ?_)
        refine qg rfl rfl rfl (fun g w hS => (yLdB (g115.1 g) Tryz.isAgg27 (hS.at _) rfl)) (fun v116 g116 => ?_)
        refine qg rfl rfl rfl (fun g w hS => (yMove h10)) (fun v117 g117 => ?_)
        refine qg rfl rfl rfl (fun g w hS => (yIxa (g116.1 g) haq (g117.1 g) Tryz.runUnderlying27 Tryz.sizeOf61 (by omega) (by omega))) (fun v118 g118 => ?_)
        refine qg rfl rfl rfl (fun g w hS => (fa61_1 (g118.1 g))) (fun v119 g119 => ?_)
        refine qg rfl rfl rfl (fun g w hS => (yLd (g119.1 g) Tryz.isAgg3 ((hcq.ext hS.ext).at (j := 1) rfl))) (fun v120 g120 => ?_)
        refine qg rfl rfl rfl (fun g w hS => (fa61_1 h5)) (fun v121 g121 => ?_)
        refine qg rfl rfl rfl (fun g w hS => (yLdB (g121.1 g) Tryz.isAgg3 (hS.at _) rfl)) (fun v122 g122 => ?_)
        refine qg rfl rfl rfl (fun g w hS => (yEql (g120.1 g) (g122.1 g))) (fun v123 g123 => ?_)
        refine qv (fun w hS => (yAnd rfl (fun hB => (g123.1 hB)) rfl)) ?_
        clear hS; refine qnil (fun w hS => ?_)
        refine cwQ ?_
        refine cond rfl (fun c124 => ?_) (fun c124 => ?_)
        ·
         refine seq <| region <| sv (yAsg rfl) <| nil <| cwQ ?_
         refine wp_ret (blockR (thenR (thenR (blockR (thenR ?_)))))
         exact retV (res1 rfl (eqI (by unfold fE; rw [if_neg (by rw [c23]; decide), if_neg (by rw [c33]; decide), if_neg (by rw [longM_no c38 z1]; decide), if_neg (by rw [show sameM (fct t.fcs i) = false from z2]; decide), if_neg (by rw [show farM (fct t.fcs i) = false from z3]; decide), if_pos (show twiceF t.fcs i = true from any_take_yes (fct_get (show k < t.fcs.length by omega)) hkl c124)]))) hS.ext
        ·
         refine skip <| cwQ <| region <| sv (yMove h10) <| sv (yAdd rfl rfl ⟨by omega, by omega⟩) <| sv (yAsg rfl) <| nil ?_
         exact ⟨_, _, rfl, ⟨k + 1, h1, h2, h5, rfl, hS, (by omega), (any_take_no (fct_get (by omega)) hA c124), rfl⟩, by omega⟩
       ·
        simp only [BS, ne_eq] at c102
        have hki : k = i := by omega
        rw [hki] at hA
        refine exit <| cwQ <| seq <| region <| sv (yAsg rfl) <| nil <| cwQ <| wp_ret ?_
        exact retV (res1 rfl (eqI (by unfold fE; rw [if_neg (by rw [c23]; decide), if_neg (by rw [c33]; decide), if_neg (by rw [longM_no c38 z1]; decide), if_neg (by rw [show sameM (fct t.fcs i) = false from z2]; decide), if_neg (by rw [show farM (fct t.fcs i) = false from z3]; decide), if_neg (by rw [show twiceF t.fcs i = false from hA]; decide)]))) hS.ext
end Go.Proofs.YtgidbailiababaaGreatDoor

/- part Sy2 -/
namespace Go.Proofs.YtgidbailiababaaGreatDoor
open Go Bx
set_option maxHeartbeats 1000000 in
theorem c_rLevels {t : Table} {cs : List Value} {a n : Int} {w0 : World} (ht : RTable w0 cs t) (hia : I64 a) (hin : I64 n) : CE Tryz.prog 59 #[.agg cs.toArray, .int .i64 a, .int .i64 n] w0 (fun v w' => ∃ sv, v = .tuple #[sv, .int .i64 (levelsE t a n)] ∧ St w0 w' [rowI sv 74 2 (levelsF t a n).length ((levelsF t a n).flatMap spanC)]) := by
 obtain ⟨cv, rfl, hmean, hsl⟩ := id ht
 obtain ⟨aa, cap, rfl, hcap, hmx, hel⟩ := id hsl
 refine enter Tryz.func59 rfl Tryz.ntmps59 rfl ?_
 have hS := St.start w0
 refine seq <| region ?_
 refine sbox hS rfl rfl ?_; clear hS; intro b3 w hS
 refine sv (yAsg rfl) <| sv (yAsg rfl) <| nil <| cwQ <| seq <| region <| sv (yLdBA rfl Tryz.isAgg24 Tryz.sizeOf24 (hS.at _) rfl rfl) ?_
 refine scall Tryz.call113 (.cons rfl .nil) (c_rCheck (ht.ext hS.ext)) ?_
 rintro _ w ⟨rfl, hE⟩; replace hS := hS.step hE; clear hE
 refine sv (yMove rfl) <| sv (yExt rfl rfl) <| sv (yExt rfl rfl) <| sv (yAsg rfl) <| sv (yAsg rfl) <| nil <| cwQ <| seq <| seq ?_
 refine region <| sv (yMove rfl) <| sv (yEql rfl rfl) <| nil <| cwQ ?_
 refine cond rfl (fun c18 => ?_) (fun c18 => ?_)
 ·
  simp only [BS, ne_eq] at c18
  have hE := levelsE_good (a := a) (n := n) c18
  refine region <| sv (yMove rfl) <| sv (yMove rfl) ?_
  refine scall Tryz.call114 (.cons rfl (.cons rfl .nil)) c_rsome ?_
  rintro _ w ⟨rfl, hE⟩; replace hS := hS.step hE; clear hE
  refine sv (yAsg rfl) <| nil <| cwQ <| seq <| seq <| region <| sv (yMove rfl) <| sv (yNeq rfl rfl) <| nil ?_
  refine cwQ ?_
  refine cond rfl (fun c23 => ?_) (fun c23 => ?_)
  ·
   simp only [BS, ne_eq] at c23
   refine seq <| region <| sv (yMove rfl) <| sv (yAsg rfl) <| sv (yAsg rfl) <| nil <| cwQ ?_
   refine wp_ret (thenR ?_)
   refine retQ (res2 rfl rfl rfl) ?_
   refine ⟨.slice none 0 0, by rw [hE]; rfl, ?_⟩
   rw [levelsF_bad (by rw [hE]; exact c23)]
   exact (hS.sub (List.nil_sublist _)).nilrow 74 2
  ·
   simp only [BS, ne_eq] at c23
   have hok := tableOk_of c18
   have hz := hE.trans c23
   obtain ⟨_, hz2, hz3⟩ := levelsE_zero hz
   obtain ⟨mm, rfl⟩ := Int.eq_ofNat_of_zero_le hz2.1
   refine skip <| cwQ <| seq <| region <| sv (yAsg rfl) <| nil <| cwQ <| seq <| seq ?_
   refine region <| sv (yAsg rfl) <| nil <| cwQ <| block <| loop (fun f w zz => ∃ (k : Nat) (v : Value), f 1 = .int .i64 a ∧ f 2 = .int .i64 (mm : Int) ∧ f 3 = .pointer (some ⟨b3, 0, none⟩) ∧ f 10 = v ∧ f 11 = .int .i64 (k : Int) ∧ StX [] w0 w [rowI v 74 2 k ((lvlsL t a k).flatMap spanC), blk b3 [.int .i64 t.mean, .slice aa t.consts.length cap] 24] ∧ (k ≤ mm) ∧ zz = mm - k) _ ⟨_, rfl, 0, _, rfl, rfl, rfl, rfl, rfl, (hS.nilrow 74 2), (Nat.zero_le _), rfl⟩ ?_
   clear hS
   rintro f w _ ⟨k, v, h1, h2, h3, h10, h11, hS, hk, rfl⟩
   refine seq <| seq <| region <| sv (yMove h11) <| sv (yMove h2) <| sv (yLss rfl rfl) <| nil <| cwQ ?_
   refine cond rfl (fun c27 => ?_) (fun c27 => ?_)
   ·
    simp only [BS, ne_eq] at c27
    have hab := hz3 (by omega)
    refine skip <| cwQ <| seq <| block <| region <| sv (yMove h10) <| sv (yLdBA h3 Tryz.isAgg24 Tryz.sizeOf24 (hS.at _) rfl rfl) <| sv (yMove h1) <| sv (yMove h11) ?_
    refine sv (yAdd rfl rfl ⟨by omega, by omega⟩) ?_
    refine scall Tryz.call115 (.cons rfl (.cons rfl .nil)) (c_rlevel (tick := a + k) (ht.ext hS.ext) hok ⟨by omega, by omega⟩) ?_
    rintro _ w ⟨rfl, hE⟩; replace hS := hS.step hE; clear hE
    refine sbslice hS Tryz.underlying86 Tryz.sizeOf74 rfl Tryz.zeroValue74 rfl (.cons rfl rfl .nil) rfl ?_; clear hS; intro b36 w hS
    refine sapp (bytes := 16) (size := 2) (v := v) (m := 1) hS rfl rfl Tryz.underlying86 ti74 rfl rfl rfl rfl (by decide) (blk_cells (hS.at _)) rfl rfl (by omega) (by omega) ?_; clear hS; intro v37 w hS
    refine sv (yAsg rfl) <| nil <| cwQ <| region <| sv (yMove h11) <| sv (yAdd rfl rfl ⟨by omega, by omega⟩) <| sv (yAsg rfl) <| nil ?_
    exact ⟨_, _, rfl, ⟨k + 1, _, h1, h2, h3, rfl, rfl, (by rw [lvlsL_succ, List.flatMap_append]; exact hS.sub (.cons _ lrQ)), (by omega), rfl⟩, by omega⟩
   ·
    simp only [BS, ne_eq] at c27
    obtain rfl : k = mm := by omega
    refine exit <| cwQ <| seq <| region <| sv (yMove h10) <| sv (yAsg rfl) <| sv (yAsg rfl) <| nil <| cwQ ?_
    refine wp_ret <| retQ (res2 rfl rfl rfl) ?_
    refine ⟨v, by rw [hz]; rfl, ?_⟩
    rw [levelsF_good hz, show (lvlsL t a (k : Int).toNat).length = k from lvlsL_len t a k]
    exact hS.sub (.cons_cons _ (List.nil_sublist _))
 ·
  simp only [BS, ne_eq] at c18
  have hE := levelsE_bad (a := a) (n := n) c18
  refine skip <| cwQ <| seq <| seq <| region <| sv (yMove rfl) <| sv (yNeq rfl rfl) <| nil <| cwQ ?_
  refine cond rfl (fun c23 => ?_) (fun c23 => ?_)
  ·
   simp only [BS, ne_eq] at c23
   refine seq <| region <| sv (yMove rfl) <| sv (yAsg rfl) <| sv (yAsg rfl) <| nil <| cwQ ?_
   refine wp_ret (thenR ?_)
   refine retQ (res2 rfl rfl rfl) ?_
   refine ⟨.slice none 0 0, by rw [hE]; rfl, ?_⟩
   rw [levelsF_bad (by rw [hE]; exact c23)]
   exact (hS.sub (List.nil_sublist _)).nilrow 74 2
  ·
   simp only [BS, ne_eq] at c23
   exact absurd c23 c18
set_option maxHeartbeats 2000000 in
theorem c_rCheckS {t : Sgt} {cs : List Value} {w0 : World} (h : RSgt w0 cs t) : CV Tryz.prog 18 #[.agg cs.toArray] w0 (.tuple #[.int .i64 (checkS t).1, .int .i64 (checkS t).2.1, .int .i64 (checkS t).2.2]) := by
 obtain ⟨cv, gv, tv, fv, rfl, hT, hG, hw64, hf64, hk64, hC, hF, hl64, hm64, hr64, hq64⟩ := id h
 obtain ⟨ag, cg, rfl, hgcap, hgmx, hgel⟩ := id hG
 obtain ⟨ak, ck, rfl, hkcap, hkmx, hkel⟩ := id hC
 obtain ⟨ae, ce, rfl, hecap, hemx, heel⟩ := id hF
 refine enter Tryz.func18 rfl Tryz.ntmps18 rfl ?_
 have hS := St.start w0
 refine seq <| region ?_
 refine sbox hS rfl rfl ?_; clear hS; intro b1 w hS
 refine sv (yAsg rfl) <| sv (yAsg rfl) <| sv (yAsg rfl) <| nil <| cwQ <| seq <| seq <| region <| sv (fa29_4 rfl) ?_
 refine sv (yLdB rfl Tryz.isAgg3 (hS.at _) rfl) ?_
 refine scall Tryz.call58 (.cons rfl (.cons rfl (.cons rfl .nil))) c_inS ?_
 rintro _ w ⟨rfl, hE⟩; replace hS := hS.step hE; clear hE
 refine sv (yNot rfl) <| nil <| cwQ ?_
 refine cond rfl (fun c15 => ?_) (fun c15 => ?_)
 ·
  rw [inB_not] at c15
  refine seq <| region <| sv (yAsg rfl) <| sv (yAsg rfl) <| sv (yAsg rfl) <| nil <| cwQ ?_
  have hfin : checkS t = (1, 0, 7) := by unfold checkS; rw [if_pos c15]
  refine wp_ret (thenR ?_)
  exact retV (res3 rfl (fstI hfin) (thd1I hfin) (thd2I hfin)) hS.ext
 ·
  rw [inB_not] at c15
  refine skip <| cwQ <| seq <| region <| sv (fa29_0 rfl) <| sv (yLdBA rfl Tryz.isAgg24 Tryz.sizeOf24 (hS.at _) rfl rfl) <| sv (fa29_3 rfl) <| sv (yLdB rfl Tryz.isAgg3 (hS.at _) rfl) <| sv (fa29_4 rfl) ?_
  refine sv (yLdB rfl Tryz.isAgg3 (hS.at _) rfl) ?_
  refine scall Tryz.call59 (.cons rfl (.cons rfl (.cons rfl .nil))) (c_rLevels (hT.ext hS.ext) hf64 hk64) ?_
  rintro _ w ⟨lvv, rfl, hM⟩; replace hS := (hS.call1 hM).sub (.cons _ lrQ); clear hM
  refine sv (yMove rfl) <| sv (yExt rfl rfl) <| sv (yExt rfl rfl) <| sv (yAsg rfl) <| sv (yAsg rfl) <| nil <| cwQ <| seq <| seq ?_
  refine region <| sv (yMove rfl) <| sv (yNeq rfl rfl) <| nil <| cwQ ?_
  refine cond rfl (fun c27 => ?_) (fun c27 => ?_)
  ·
   simp only [BS, ne_eq] at c27
   refine seq <| region <| sv (yMove rfl) <| sv (yAsg rfl) <| sv (yAsg rfl) <| sv (yAsg rfl) <| nil <| cwQ ?_
   have hfin : checkS t = (1, 0, levelsE t.table t.frm t.ticks) := by unfold checkS; rw [if_neg (by rw [c15]; decide), if_pos c27]
   refine wp_ret (thenR ?_)
   exact retV (res3 rfl (fstI hfin) (thd1I hfin) (thd2I hfin)) hS.ext
  ·
   simp only [BS, ne_eq] at c27
   refine skip <| cwQ <| seq <| region <| sv (yLdBA rfl Tryz.isAgg29 Tryz.sizeOf29 (hS.at _) rfl rfl) ?_
   refine scall Tryz.call60 (.cons rfl .nil) (c_rgausS (h.ext hS.ext)) ?_
   rintro _ w ⟨rfl, hE⟩; replace hS := hS.step hE; clear hE
   refine sv (yMove rfl) <| sv (yExt rfl rfl) <| sv (yExt rfl rfl) <| sv (yAsg rfl) <| sv (yAsg rfl) <| nil <| cwQ <| seq <| seq ?_
   refine region <| sv (yMove rfl) <| sv (yNeq rfl rfl) <| nil <| cwQ ?_
   refine cond rfl (fun c35 => ?_) (fun c35 => ?_)
   ·
    simp only [BS, ne_eq] at c35
    refine seq <| region <| sv (yMove rfl) <| sv (yMove rfl) <| sv (yAsg rfl) <| sv (yAsg rfl) <| sv (yAsg rfl) <| nil <| cwQ ?_
    have hfin : checkS t = (2, gausE t) := by unfold checkS; rw [if_neg (by rw [c15]; decide), if_neg (fun k => k c27), if_pos c35]
    refine wp_ret (thenR ?_)
    exact retV (res3 rfl (fstI hfin) (thd1I hfin) (thd2I hfin)) hS.ext
   ·
    simp only [BS, ne_eq] at c35
    refine skip <| cwQ <| seq <| seq <| region <| sv (fa29_5 rfl) <| sv (yLdB rfl Tryz.isAgg26 (hS.at _) rfl) <| sv (yLen rfl Tryz.underlying26) <| sv (yGtr rfl rfl) ?_
    refine sv (yMove rfl) ?_
    refine sg rfl rfl rfl (fun g => (fa29_6 rfl)) (fun v43 g43 => ?_)
    refine sg rfl rfl rfl (fun g => (yLdB (g43.1 g) Tryz.isAgg27 (hS.at _) rfl)) (fun v44 g44 => ?_)
    refine sg rfl rfl rfl (fun g => (yLen (g44.1 g) Tryz.underlying27)) (fun v45 g45 => ?_)
    refine sg rfl rfl rfl (fun g => (yGtr (g45.1 g) rfl)) (fun v46 g46 => ?_)
    refine sv (yOr rfl rfl (fun hB => (g46.1 hB))) <| nil <| cwQ ?_
    refine cond rfl (fun c47 => ?_) (fun c47 => ?_)
    ·
     simp only [BS, ne_eq] at c47
     refine seq <| region <| sv (yAsg rfl) <| sv (yAsg rfl) <| sv (yAsg rfl) <| nil <| cwQ ?_
     have hfin : checkS t = (3, 0, 3) := by unfold checkS; rw [if_neg (by rw [c15]; decide), if_neg (fun k => k c27), if_neg (fun k => k c35), if_pos c47]
     refine wp_ret (thenR ?_)
     exact retV (res3 rfl (fstI hfin) (thd1I hfin) (thd2I hfin)) hS.ext
    ·
     simp only [BS, ne_eq] at c47
     refine skip <| cwQ <| seq <| seq <| region <| sv (fa29_7 rfl) <| sv (yLdB rfl Tryz.isAgg3 (hS.at _) rfl) ?_
     refine scall Tryz.call58 (.cons rfl (.cons rfl (.cons rfl .nil))) c_inS ?_
     rintro _ w ⟨rfl, hE⟩; replace hS := hS.step hE; clear hE
     refine sv (yNot rfl) <| sv (yMove rfl) ?_
     refine sg rfl rfl rfl (fun g => (fa29_8 rfl)) (fun v53 g53 => ?_)
     refine sg rfl rfl rfl (fun g => (yLdB (g53.1 g) Tryz.isAgg3 (hS.at _) rfl)) (fun v54 g54 => ?_)
     refine sgc hS rfl rfl rfl Tryz.call58 (fun g => (.cons (g54.1 g) (.cons rfl (.cons rfl .nil)))) (fun g => c_inS) ?_; clear hS; intro v55 w hS g55
     refine sg rfl rfl rfl (fun g => (yNot (g55.1 g))) (fun v56 g56 => ?_)
     refine sv (yOr rfl rfl (fun hB => (g56.1 hB))) <| sv (yMove rfl) ?_
     refine sg rfl rfl rfl (fun g => (fa29_9 rfl)) (fun v59 g59 => ?_)
     refine sg rfl rfl rfl (fun g => (yLdB (g59.1 g) Tryz.isAgg3 (hS.at _) rfl)) (fun v60 g60 => ?_)
     refine sgc hS rfl rfl rfl Tryz.call58 (fun g => (.cons (g60.1 g) (.cons rfl (.cons rfl .nil)))) (fun g => c_inS) ?_; clear hS; intro v61 w hS g61
     refine sg rfl rfl rfl (fun g => (yNot (g61.1 g))) (fun v62 g62 => ?_)
     refine sv (yOr rfl rfl (fun hB => (g62.1 hB))) <| sv (yMove rfl) ?_
     refine sg rfl rfl rfl (fun g => (fa29_10 rfl)) (fun v65 g65 => ?_)
     refine sg rfl rfl rfl (fun g => (yLdB (g65.1 g) Tryz.isAgg3 (hS.at _) rfl)) (fun v66 g66 => ?_)
     refine sg rfl rfl rfl (fun g => (fa29_5 rfl)) (fun v67 g67 => ?_)
     refine sg rfl rfl rfl (fun g => (yLdB (g67.1 g) Tryz.isAgg26 (hS.at _) rfl)) (fun v68 g68 => ?_)
     refine sg rfl rfl rfl (fun g => (yLen (g68.1 g) Tryz.underlying26)) (fun v69 g69 => ?_)
     refine sgc hS rfl rfl rfl Tryz.call58 (fun g => (.cons (g66.1 g) (.cons rfl (.cons (g69.1 g) .nil)))) (fun g => c_inS) ?_; clear hS; intro v70 w hS g70
     refine sg rfl rfl rfl (fun g => (yNot (g70.1 g))) (fun v71 g71 => ?_)
     refine sv (yOr rfl rfl (fun hB => (g71.1 hB))) <| nil <| cwQ ?_
     refine cond rfl (fun c72 => ?_) (fun c72 => ?_)
     ·
      rw [inB_not, inB_not, inB_not, inB_not] at c72
      refine seq <| region <| sv (yAsg rfl) <| sv (yAsg rfl) <| sv (yAsg rfl) <| nil <| cwQ ?_
      have hfin : checkS t = (3, 0, 7) := by unfold checkS; rw [if_neg (by rw [c15]; decide), if_neg (fun k => k c27), if_neg (fun k => k c35), if_neg (fun k => k.elim c47.1 c47.2), if_pos (show numsS t = true from c72)]
      refine wp_ret (thenR ?_)
      exact retV (res3 rfl (fstI hfin) (thd1I hfin) (thd2I hfin)) hS.ext
     ·
      rw [inB_not, inB_not, inB_not, inB_not] at c72
      refine skip <| cwQ <| seq <| seq <| region <| sv (yAsg rfl) <| nil <| cwQ <| block ?_
      refine loop (fun f w zz => ∃ (k : Nat), f 1 = .pointer (some ⟨b1, 0, none⟩) ∧ f 8 = .int .i64 (k : Int) ∧ StX [] w0 w [blk b1 [.int .i64 t.table.mean, cv, .slice ag t.gauges.length cg, .int .i64 t.wrong, .int .i64 t.frm, .int .i64 t.ticks, .slice ak t.ctrs.length ck, .slice ae t.fcs.length ce, .int .i64 t.least, .int .i64 t.most, .int .i64 t.rate, .int .i64 t.quorum] 29] ∧ (k ≤ t.ctrs.length) ∧ (firstN (cE t.ctrs) t.ctrs.length 0 = firstN (cE t.ctrs) (t.ctrs.length - k) k) ∧ zz = t.ctrs.length - k) _ ⟨_, rfl, 0, rfl, rfl, hS, (Nat.zero_le _), (rfl), rfl⟩ ?_
      clear hS
      rintro f w _ ⟨k, h1, h8, hS, hk, hI, rfl⟩
      refine seq <| seq <| region <| sv (yMove h8) <| sv (fa29_5 h1) <| sv (yLdB rfl Tryz.isAgg26 (hS.at _) rfl) <| sv (yLen rfl Tryz.underlying26) <| sv (yLss rfl rfl) <| nil ?_
      refine cwQ ?_
      refine cond rfl (fun c77 => ?_) (fun c77 => ?_)
      ·
       simp only [BS, ne_eq] at c77
       refine skip <| cwQ <| seq <| block <| seq <| region <| sv (yLdBA h1 Tryz.isAgg29 Tryz.sizeOf29 (hS.at _) rfl rfl) <| sv (yMove h8) ?_
       refine scall Tryz.call61 (.cons rfl (.cons rfl .nil)) (c_rcentS (h.ext hS.ext) (by omega)) ?_
       rintro _ w ⟨rfl, hE⟩; replace hS := hS.step hE; clear hE
       refine sv (yAsg rfl) <| nil <| cwQ <| seq <| region <| sv (yMove rfl) <| sv (yNeq rfl rfl) <| nil <| cwQ ?_
       refine cond rfl (fun c84 => ?_) (fun c84 => ?_)
       ·
        simp only [BS, ne_eq] at c84
        refine seq <| region <| sv (yMove h8) <| sv (yMove rfl) <| sv (yAsg rfl) <| sv (yAsg rfl) <| sv (yAsg rfl) <| nil <| cwQ ?_
        have hN : firstN (cE t.ctrs) t.ctrs.length 0 = ((k : Int), cE t.ctrs k) := by rw [hI, firstN_at (by omega) c84]
        have hfin : checkS t = (4, (k : Int), cE t.ctrs k) := by unfold checkS; rw [if_neg (by rw [c15]; decide), if_neg (fun k => k c27), if_neg (fun k => k c35), if_neg (fun k => k.elim c47.1 c47.2), if_neg (by rw [show numsS t = false from c72]; decide), if_pos (by rw [hN]; exact c84), hN]
        refine wp_ret (blockR (thenR (thenR (blockR (thenR ?_)))))
        exact retV (res3 rfl (fstI hfin) (thd1I hfin) (thd2I hfin)) hS.ext
       ·
        simp only [BS, ne_eq] at c84
        refine skip <| cwQ <| region <| sv (yMove h8) <| sv (yAdd rfl rfl ⟨by omega, by omega⟩) <| sv (yAsg rfl) <| nil ?_
        exact ⟨_, _, rfl, ⟨k + 1, h1, rfl, hS, (by omega), (by rw [hI]; exact firstN_go (by omega) c84), rfl⟩, by omega⟩
      ·
       simp only [BS, ne_eq] at c77
       obtain rfl : k = t.ctrs.length := by omega
       have hec : (firstN (cE t.ctrs) t.ctrs.length 0).2 = 0 := by rw [hI, Nat.sub_self]; rfl
       clear hI
       refine exit <| cwQ <| seq <| seq <| region <| sv (yAsg rfl) <| nil <| cwQ <| block ?_
       refine loop (fun f w zz => ∃ (k : Nat), f 1 = .pointer (some ⟨b1, 0, none⟩) ∧ f 10 = .int .i64 (k : Int) ∧ StX [] w0 w [blk b1 [.int .i64 t.table.mean, cv, .slice ag t.gauges.length cg, .int .i64 t.wrong, .int .i64 t.frm, .int .i64 t.ticks, .slice ak t.ctrs.length ck, .slice ae t.fcs.length ce, .int .i64 t.least, .int .i64 t.most, .int .i64 t.rate, .int .i64 t.quorum] 29] ∧ (k ≤ t.fcs.length) ∧ (firstN (fE t.ctrs.length t.fcs) t.fcs.length 0 = firstN (fE t.ctrs.length t.fcs) (t.fcs.length - k) k) ∧ zz = t.fcs.length - k) _ ⟨_, rfl, 0, h1, rfl, hS, (Nat.zero_le _), (rfl), rfl⟩ ?_
       clear hS
       rintro f w _ ⟨k, h1, h10, hS, hk, hI, rfl⟩
       refine seq <| seq <| region <| sv (yMove h10) <| sv (fa29_6 h1) <| sv (yLdB rfl Tryz.isAgg27 (hS.at _) rfl) <| sv (yLen rfl Tryz.underlying27) <| sv (yLss rfl rfl) <| nil ?_
       refine cwQ ?_
       refine cond rfl (fun c91 => ?_) (fun c91 => ?_)
       ·
        simp only [BS, ne_eq] at c91
        refine skip <| cwQ <| seq <| block <| seq <| region <| sv (yLdBA h1 Tryz.isAgg29 Tryz.sizeOf29 (hS.at _) rfl rfl) <| sv (yMove h10) ?_
        refine scall Tryz.call62 (.cons rfl (.cons rfl .nil)) (c_rforeS (h.ext hS.ext) (by omega)) ?_
        rintro _ w ⟨rfl, hE⟩; replace hS := hS.step hE; clear hE
        refine sv (yAsg rfl) <| nil <| cwQ <| seq <| region <| sv (yMove rfl) <| sv (yNeq rfl rfl) <| nil <| cwQ ?_
        refine cond rfl (fun c98 => ?_) (fun c98 => ?_)
        ·
         simp only [BS, ne_eq] at c98
         refine seq <| region <| sv (yMove h10) <| sv (yMove rfl) <| sv (yAsg rfl) <| sv (yAsg rfl) <| sv (yAsg rfl) <| nil <| cwQ ?_
         have hN : firstN (fE t.ctrs.length t.fcs) t.fcs.length 0 = ((k : Int), fE t.ctrs.length t.fcs k) := by rw [hI, firstN_at (by omega) c98]
         have hfin : checkS t = (5, (k : Int), fE t.ctrs.length t.fcs k) := by unfold checkS; rw [if_neg (by rw [c15]; decide), if_neg (fun k => k c27), if_neg (fun k => k c35), if_neg (fun k => k.elim c47.1 c47.2), if_neg (by rw [show numsS t = false from c72]; decide), if_neg (fun k => k hec), if_pos (by rw [hN]; exact c98), hN]
         refine wp_ret (blockR (thenR (thenR (blockR (thenR ?_)))))
         exact retV (res3 rfl (fstI hfin) (thd1I hfin) (thd2I hfin)) hS.ext
        ·
         simp only [BS, ne_eq] at c98
         refine skip <| cwQ <| region <| sv (yMove h10) <| sv (yAdd rfl rfl ⟨by omega, by omega⟩) <| sv (yAsg rfl) <| nil ?_
         exact ⟨_, _, rfl, ⟨k + 1, h1, rfl, hS, (by omega), (by rw [hI]; exact firstN_go (by omega) c98), rfl⟩, by omega⟩
       ·
        simp only [BS, ne_eq] at c91
        obtain rfl : k = t.fcs.length := by omega
        have hef : (firstN (fE t.ctrs.length t.fcs) t.fcs.length 0).2 = 0 := by rw [hI, Nat.sub_self]; rfl
        refine exit <| cwQ <| seq <| region <| sv (yAsg rfl) <| sv (yAsg rfl) <| sv (yAsg rfl) <| nil <| cwQ ?_
        have hfin : checkS t = (0, 0, 0) := by unfold checkS; rw [if_neg (by rw [c15]; decide), if_neg (fun k => k c27), if_neg (fun k => k c35), if_neg (fun k => k.elim c47.1 c47.2), if_neg (by rw [show numsS t = false from c72]; decide), if_neg (fun k => k hec), if_neg (fun k => k hef)]
        refine wp_ret ?_
        exact retV (res3 rfl (fstI hfin) (thd1I hfin) (thd2I hfin)) hS.ext
theorem c_ask {t : Sgt} {cs : List Value} {now : Int} {w0 : World} (h : RSgt w0 cs t) : CV Tryz.prog 65 #[.agg cs.toArray, .int .i64 now] w0 (.int .i64 (askE t now)) := by
 obtain ⟨cv, gv, tv, fv, rfl, hT, hG, hw64, hf64, hk64, hC, hF, hl64, hm64, hr64, hq64⟩ := id h
 obtain ⟨ag, cg, rfl, hgcap, hgmx, hgel⟩ := id hG
 obtain ⟨ak, ck, rfl, hkcap, hkmx, hkel⟩ := id hC
 obtain ⟨ae, ce, rfl, hecap, hemx, heel⟩ := id hF
 refine enter Tryz.func65 rfl Tryz.ntmps65 rfl ?_
 have hS := St.start w0
 refine seq <| region ?_
 refine sbox hS rfl rfl ?_; clear hS; intro b2 w hS
 refine sv (yAsg rfl) <| nil <| cwQ <| seq <| region <| sv (yLdBA rfl Tryz.isAgg29 Tryz.sizeOf29 (hS.at _) rfl rfl) ?_
 refine scall Tryz.call18 (.cons rfl .nil) (c_rCheckS (h.ext hS.ext)) ?_
 rintro _ w ⟨rfl, hE⟩; replace hS := hS.step hE; clear hE
 refine sv (yMove rfl) <| sv (yExt rfl rfl) <| sv (yExt rfl rfl) <| sv (yExt rfl rfl) <| sv (yAsg rfl) <| sv (yAsg rfl) <| sv (yAsg rfl) <| nil <| cwQ ?_
 refine seq <| seq <| region <| sv (yMove rfl) <| sv (yEql rfl rfl) <| sv (yMove rfl) ?_
 refine sg rfl rfl rfl (fun g => (yMove rfl)) (fun v17 g17 => ?_)
 refine sgc hS rfl rfl rfl Tryz.call80 (fun g => (.cons (g17.1 g) .nil)) (fun g => c_rtickS) ?_; clear hS; intro v18 w hS g18
 refine sg rfl rfl rfl (fun g => (yNot (g18.1 g))) (fun v19 g19 => ?_)
 refine sv (yAnd rfl (fun hB => (g19.1 hB)) rfl) <| nil <| cwQ ?_
 refine cond rfl (fun c20 => ?_) (fun c20 => ?_)
 ·
  refine region <| sv (yAsg rfl) <| nil <| cwQ <| seq <| region <| sv (yMove rfl) <| sv (yAsg rfl) <| nil ?_
  refine cwQ <| wp_ret ?_
  exact retV (res1 rfl (eqI (ask_seven c20))) hS.ext
 ·
  refine skip <| cwQ <| seq <| region <| sv (yMove rfl) <| sv (yAsg rfl) <| nil <| cwQ <| wp_ret ?_
  exact retV (res1 rfl (eqI (ask_same c20))) hS.ext
end Go.Proofs.YtgidbailiababaaGreatDoor

/- part Sy3 -/
namespace Go.Proofs.YtgidbailiababaaGreatDoor
open Go Bx
set_option maxHeartbeats 2000000 in
theorem c_rcurrent {t : Sgt} {cs : List Value} {now : Int} {w0 : World} (h : RSgt w0 cs t) (hok : SgOk t) (hnow : Bd now 0 200000) : CE Tryz.prog 85 #[.agg cs.toArray, .int .i64 now] w0 (fun u w' => St w0 w' [rowI u 3 1 t.ctrs.length ((curS t now).flatMap Bx.encI)]) := by
 obtain ⟨cv, gv, tv, fv, rfl, hT, hG, hw64, hf64, hk64, hC, hF, hl64, hm64, hr64, hq64⟩ := id h
 obtain ⟨ag, cg, rfl, hgcap, hgmx, hgel⟩ := id hG
 obtain ⟨ak, ck, rfl, hkcap, hkmx, hkel⟩ := id hC
 obtain ⟨ae, ce, rfl, hecap, hemx, heel⟩ := id hF
 have hnc := hok.nc
 have hnf := hok.nf
 refine enter Tryz.func85 rfl Tryz.ntmps85 rfl ?_
 have hS := St.start w0
 refine seq <| region ?_
 refine sbox hS rfl rfl ?_; clear hS; intro b2 w hS
 refine sv (yAsg rfl) <| nil <| cwQ <| seq <| region <| sv (fa29_5 rfl) <| sv (yLdB rfl Tryz.isAgg26 (hS.at _) rfl) <| sv (yLen rfl Tryz.underlying26) ?_
 refine smake (bytes := 8) (zs := [.int .i64 0]) (m := t.ctrs.length) hS rfl rfl Tryz.underlying39 ti3 rfl rfl rfl rfl rfl (by omega) (by omega) ?_; clear hS; intro b12 w hS
 replace hS := hS.toRow 1 t.ctrs.length (by simp) (by omega)
 rw [curL_0 (now := now)] at hS
 refine sv (yAsg rfl) <| nil <| cwQ <| seq <| seq <| region <| sv (yAsg rfl) <| nil <| cwQ ?_
 refine block <| loop (fun f w zz => ∃ (k : Nat), f 1 = .int .i64 now ∧ f 2 = .pointer (some ⟨b2, 0, none⟩) ∧ f 5 = .slice (some ⟨b12, 0, none⟩) t.ctrs.length t.ctrs.length ∧ f 6 = .int .i64 (k : Int) ∧ StX [] w0 w [rowI (.slice (some ⟨b12, 0, none⟩) t.ctrs.length t.ctrs.length) 3 1 t.ctrs.length ((curL t now k 0).flatMap Bx.encI), blk b2 [.int .i64 t.table.mean, cv, .slice ag t.gauges.length cg, .int .i64 t.wrong, .int .i64 t.frm, .int .i64 t.ticks, .slice ak t.ctrs.length ck, .slice ae t.fcs.length ce, .int .i64 t.least, .int .i64 t.most, .int .i64 t.rate, .int .i64 t.quorum] 29] ∧ (k ≤ t.ctrs.length) ∧ zz = t.ctrs.length - k) _ ⟨_, rfl, 0, rfl, rfl, rfl, rfl, hS, (Nat.zero_le _), rfl⟩ ?_
 clear hS
 rintro f w _ ⟨k, h1, h2, h5, h6, hS, hk, rfl⟩
 refine seq <| seq <| region <| sv (yMove h6) <| sv (yMove h5) <| sv (yLen rfl Tryz.underlying39) <| sv (yLss rfl rfl) <| nil <| cwQ ?_
 refine cond rfl (fun c16 => ?_) (fun c16 => ?_)
 ·
  simp only [BS, ne_eq] at c16
  have hkl : k < t.ctrs.length := by omega
  obtain ⟨bq, oq, cq, haq, -, hcq, hRq, -⟩ := sl_at hC (ctr_get hkl)
  obtain ⟨rfl, hnm, -⟩ := hRq
  obtain ⟨q1, q2, q3⟩ := hok.ctrs hkl
  refine skip <| cwQ <| seq <| block <| seq <| region <| sv (yMove h5) <| sv (yMove h6) <| sv (Y.to (yIxa rfl rfl rfl Tryz.runUnderlying39 Tryz.sizeOf3 (by omega) (by omega)) (congrArg (fun q => Value.pointer (some ⟨b12, q, none⟩)) (show 0 + (k : Int).toNat * 1 = k * 1 by omega))) ?_
  refine srst (m := t.ctrs.length) (cap := t.ctrs.length) (sz := 1) (vs := [.int .i64 (-1)]) hS rfl rfl Tryz.sizeOf3 rfl rfl (by omega) rfl ?_; clear hS; intro w hS
  rw [curL_store hkl] at hS
  refine nil <| cwQ <| seq <| region <| sv (yAsg rfl) <| nil <| cwQ <| block <| loop (fun f w zz => ∃ (j : Nat), f 1 = .int .i64 now ∧ f 2 = .pointer (some ⟨b2, 0, none⟩) ∧ f 5 = .slice (some ⟨b12, 0, none⟩) t.ctrs.length t.ctrs.length ∧ f 6 = .int .i64 (k : Int) ∧ f 7 = .int .i64 (j : Int) ∧ StX [] w0 w [rowI (.slice (some ⟨b12, 0, none⟩) t.ctrs.length t.ctrs.length) 3 1 t.ctrs.length ((curL t now k (curK t now k j)).flatMap Bx.encI), blk b2 [.int .i64 t.table.mean, cv, .slice ag t.gauges.length cg, .int .i64 t.wrong, .int .i64 t.frm, .int .i64 t.ticks, .slice ak t.ctrs.length ck, .slice ae t.fcs.length ce, .int .i64 t.least, .int .i64 t.most, .int .i64 t.rate, .int .i64 t.quorum] 29] ∧ (j ≤ t.fcs.length) ∧ zz = t.fcs.length - j) _ ⟨_, rfl, 0, h1, h2, h5, h6, rfl, hS, (Nat.zero_le _), rfl⟩ ?_
  clear hS
  rintro f w _ ⟨j, h1, h2, h5, h6, h7, hS, hj, rfl⟩
  refine seq <| seq <| region <| sv (yMove h7) <| sv (fa29_6 h2) <| sv (yLdB rfl Tryz.isAgg27 (hS.at _) rfl) <| sv (yLen rfl Tryz.underlying27) <| sv (yLss rfl rfl) <| nil ?_
  refine cwQ ?_
  refine cond rfl (fun c26 => ?_) (fun c26 => ?_)
  ·
   simp only [BS, ne_eq] at c26
   have hjl : j < t.fcs.length := by omega
   obtain ⟨bf, of, cf, haf, hlf, hcf, hRf, -⟩ := sl_at hF (fct_get hjl)
   obtain ⟨mv, rfl, hf1, hf2, hf3, hMm⟩ := hRf
   obtain ⟨am, cm, rfl, -⟩ := id hMm
   obtain ⟨fo1, fo2, fo3, -⟩ := hok.fcts hjl
   have hcb := curK_bd t now k j
   obtain ⟨bl, ol, hlast⟩ := fct_if hF (curK t now k j) (by omega)
   refine skip <| cwQ <| seq <| block <| seq <| region <| sv (fa29_6 h2) <| sv (yLdB rfl Tryz.isAgg27 (hS.at _) rfl) <| sv (yMove h7) ?_
   refine sv (yIxa rfl haf rfl Tryz.runUnderlying27 Tryz.sizeOf61 (by omega) (by omega)) <| sv (yLdA rfl Tryz.isAgg61 Tryz.sizeOf61 (hcf.ext hS.ext) rfl) ?_
   refine salloc hS Tryz.zeroValue61 rfl ?_; clear hS; intro b8 w hS
   refine sst hS rfl rfl Tryz.sizeOf61 rfl rfl rfl rfl ?_; clear hS; intro w hS
   refine nil <| cwQ <| seq <| region_draw mixed (by kernel_rfl) hS <| qv (fun w hS => (fa61_0 rfl)) <| qv (fun w hS => (yLdB rfl Tryz.isAgg3 (hS.at _) rfl)) <| qv (fun w hS => (yMove h6)) <| qv (fun w hS => (yEql rfl rfl)) <| qv (fun w hS => (yMove rfl)) ?_
   refine qg rfl rfl rfl (fun g w hS => (fa61_1 rfl)) (fun v39 g39 => ?_)
   refine qg rfl rfl rfl (fun g w hS => (yLdB (g39.1 g) Tryz.isAgg3 (hS.at _) rfl)) (fun v40 g40 => ?_)
   refine qg rfl rfl rfl (fun g w hS => (fa29_5 h2)) (fun v41 g41 => ?_)
   refine qg rfl rfl rfl (fun g w hS => (yLdB (g41.1 g) Tryz.isAgg26 (hS.at _) rfl)) (fun v42 g42 => ?_)
   refine qg rfl rfl rfl (fun g w hS => (yMove h6)) (fun v43 g43 => ?_)
   refine qg rfl rfl rfl (fun g w hS => (yIxa (g42.1 g) haq (g43.1 g) Tryz.runUnderlying26 Tryz.sizeOf57 (by omega) (by omega))) (fun v44 g44 => ?_)
   refine qg rfl rfl rfl (fun g w hS => (fa57_1 (g44.1 g))) (fun v45 g45 => ?_)
   refine qg rfl rfl rfl (fun g w hS => (yLd (g45.1 g) Tryz.isAgg3 ((hcq.ext hS.ext).at (j := 1) rfl))) (fun v46 g46 => ?_)
   refine qg rfl rfl rfl (fun g w hS => (yAdd (g40.1 g) (g46.1 g) ⟨by omega, by omega⟩)) (fun v47 g47 => ?_)
   refine qg rfl rfl rfl (fun g w hS => (yMove h1)) (fun v48 g48 => ?_)
   refine qg rfl rfl rfl (fun g w hS => (yLeq (g47.1 g) (g48.1 g))) (fun v49 g49 => ?_)
   refine qv (fun w hS => (yAnd rfl (fun hB => (g49.1 hB)) rfl)) <| qv (fun w hS => (yMove rfl)) ?_
   refine qg rfl rfl rfl (fun g w hS => (yMove h5)) (fun v52 g52 => ?_)
   refine qg rfl rfl rfl (fun g w hS => (yMove h6)) (fun v53 g53 => ?_)
   refine qg rfl rfl rfl (fun g w hS => (Y.to (yIxa (g52.1 g) rfl (g53.1 g) Tryz.runUnderlying39 Tryz.sizeOf3 (by omega) (by omega)) (congrArg (fun q => Value.pointer (some ⟨b12, q, none⟩)) (show 0 + (k : Int).toNat * 1 = k * 1 by omega)))) (fun v54 g54 => ?_)
   refine qg rfl rfl rfl (fun g w hS => (yLd (g54.1 g) Tryz.isAgg3 (flat_cells0 (enc := Bx.encI) Bx.encI_len (row_at (hS.row (.slice (some ⟨b12, 0, none⟩) t.ctrs.length t.ctrs.length)) rfl (by omega)) (curL_at hkl)).one)) (fun v55 g55 => ?_)
   refine qg rfl rfl rfl (fun g w hS => (yLss (g55.1 g) rfl)) (fun v56 g56 => ?_)
   refine qg rfl rfl rfl (fun g w hS => (yMove (g56.1 g))) (fun v57 g57 => ?_)
   refine qgg rfl rfl g57 (fun g w hS => (fa61_1 rfl)) (fun v58 g58 => ?_)
   refine qgg rfl rfl g57 (fun g w hS => (yLdB (g58.1 g) Tryz.isAgg3 (hS.at _) rfl)) (fun v59 g59 => ?_)
   refine qgg rfl rfl g57 (fun g w hS => (fa29_6 h2)) (fun v60 g60 => ?_)
   refine qgg rfl rfl g57 (fun g w hS => (yLdB (g60.1 g) Tryz.isAgg27 (hS.at _) rfl)) (fun v61 g61 => ?_)
   refine qgg rfl rfl g57 (fun g w hS => (yMove h5)) (fun v62 g62 => ?_)
   refine qgg rfl rfl g57 (fun g w hS => (yMove h6)) (fun v63 g63 => ?_)
   refine qgg rfl rfl g57 (fun g w hS => (Y.to (yIxa (g62.1 g) rfl (g63.1 g) Tryz.runUnderlying39 Tryz.sizeOf3 (by omega) (by omega)) (congrArg (fun q => Value.pointer (some ⟨b12, q, none⟩)) (show 0 + (k : Int).toNat * 1 = k * 1 by omega)))) (fun v64 g64 => ?_)
   refine qgg rfl rfl g57 (fun g w hS => (yLd (g64.1 g) Tryz.isAgg3 (flat_cells0 (enc := Bx.encI) Bx.encI_len (row_at (hS.row (.slice (some ⟨b12, 0, none⟩) t.ctrs.length t.ctrs.length)) rfl (by omega)) (curL_at hkl)).one)) (fun v65 g65 => ?_)
   refine qgg rfl rfl g57 (fun g w hS => (yIxa (g61.1 g) (hlast (by have := of_decide_eq_false g.2; omega)).1 (g65.1 g) Tryz.runUnderlying27 Tryz.sizeOf61 (by have := of_decide_eq_false g.2; omega) (by have := of_decide_eq_false g.2; omega))) (fun v66 g66 => ?_)
   refine qgg rfl rfl g57 (fun g w hS => (fa61_1 (g66.1 g))) (fun v67 g67 => ?_)
   refine qgg rfl rfl g57 (fun g w hS => (yLd (g67.1 g) Tryz.isAgg3 ((hlast (by have := of_decide_eq_false g.2; omega)).2 |> hS.ext.cell))) (fun v68 g68 => ?_)
   refine qgg rfl rfl g57 (fun g w hS => (yGtr (g59.1 g) (g68.1 g))) (fun v69 g69 => ?_)
   refine qg rfl rfl rfl (fun g w hS => (yOr (g57.1 g) rfl (fun hB => (g69.1 ⟨g, hB⟩)))) (fun v70 g70 => ?_)
   refine qv (fun w hS => (yAnd rfl (fun hB => (g70.1 hB)) rfl)) ?_
   clear hS; refine qnil (fun w hS => ?_)
   refine cwQ ?_
   refine cond rfl (fun c71 => ?_) (fun c71 => ?_)
   ·
    simp only [BS, ne_eq] at c71
    refine region <| sv (yMove h5) <| sv (yMove h6) <| sv (yMove h7) <| sv (Y.to (yIxa rfl rfl rfl Tryz.runUnderlying39 Tryz.sizeOf3 (by omega) (by omega)) (congrArg (fun q => Value.pointer (some ⟨b12, q, none⟩)) (show 0 + (k : Int).toNat * 1 = k * 1 by omega))) ?_
    refine srst (m := t.ctrs.length) (cap := t.ctrs.length) (sz := 1) (vs := [.int .i64 (j : Int)]) hS rfl rfl Tryz.sizeOf3 rfl rfl (by omega) rfl ?_; clear hS; intro w hS
    rw [curL_store hkl] at hS
    refine nil <| cwQ <| region <| sv (yMove h7) <| sv (yAdd rfl rfl ⟨by omega, by omega⟩) <| sv (yAsg rfl) <| nil ?_
    exact ⟨_, _, rfl, ⟨j + 1, h1, h2, h5, h6, rfl, (by rw [curK_succ]; unfold curStep; rw [if_pos ⟨c71.1.1, by have := c71.1.2; omega, c71.2⟩]; exact hS.sub (.cons _ lrQ)), (by omega), rfl⟩, by omega⟩
   ·
    simp only [BS, ne_eq] at c71
    refine skip <| cwQ <| region <| sv (yMove h7) <| sv (yAdd rfl rfl ⟨by omega, by omega⟩) <| sv (yAsg rfl) <| nil ?_
    exact ⟨_, _, rfl, ⟨j + 1, h1, h2, h5, h6, rfl, (by rw [curK_succ]; unfold curStep; rw [if_neg (fun hh => by omega)]; exact hS.sub (.cons _ lrQ)), (by omega), rfl⟩, by omega⟩
  ·
   simp only [BS, ne_eq] at c26
   have hjj : j = t.fcs.length := by omega
   rw [hjj] at hS
   refine exit <| cwQ <| region <| sv (yMove h6) <| sv (yAdd rfl rfl ⟨by omega, by omega⟩) <| sv (yAsg rfl) <| nil ?_
   exact ⟨_, _, rfl, ⟨k + 1, h1, h2, h5, rfl, (by rw [← curL_next]; exact hS), (by omega), rfl⟩, by omega⟩
 ·
  simp only [BS, ne_eq] at c16
  obtain rfl : k = t.ctrs.length := by omega
  refine exit <| cwQ <| seq <| region <| sv (yMove h5) <| sv (yAsg rfl) <| nil <| cwQ <| wp_ret ?_
  refine retQ (res1 rfl rfl) ?_
  rw [curL_all] at hS
  exact hS.sub (.cons_cons _ (List.nil_sublist _))
end Go.Proofs.YtgidbailiababaaGreatDoor

/- part Sy4 -/
namespace Go.Proofs.YtgidbailiababaaGreatDoor
open Go Bx
set_option maxHeartbeats 1000000 in
theorem c_rwrong {t : Sgt} {cs : List Value} {fi : Nat} {tick : Int} {w0 : World} (h : RSgt w0 cs t) (hok : SgOk t) (hfi : fi < t.fcs.length) (htk : Bd tick 0 200000) : CV Tryz.prog 91 #[.agg cs.toArray, .int .i64 (fi : Int), .int .i64 tick] w0 (.int .i64 (wrongS t (fct t.fcs fi) tick)) := by
 obtain ⟨cv, gv, tv, fv, rfl, hT, hG, hw64, hf64, hk64, hC, hF, hl64, hm64, hr64, hq64⟩ := id h
 obtain ⟨ag, cg, rfl, hgcap, hgmx, hgel⟩ := id hG
 obtain ⟨ak, ck, rfl, hkcap, hkmx, hkel⟩ := id hC
 obtain ⟨ae, ce, rfl, hecap, hemx, heel⟩ := id hF
 have hnc := hok.nc
 have hfo := hok.fcts hfi
 obtain ⟨bf, of, cf, haf, hlf, hcf, hRf, -⟩ := sl_at hF (fct_get hfi)
 obtain ⟨mv, rfl, hf1, hf2, hf3, hMm⟩ := hRf
 obtain ⟨am, cm, rfl, -⟩ := id hMm
 obtain ⟨fo1, fo2, fo3, -⟩ := id hfo
 obtain ⟨bq, oq, cq, haq, -, hcq, hRq, -⟩ := sl_at hC (ctr_get (l := t.ctrs) (i := (fct t.fcs fi).centre.toNat) (by omega))
 obtain ⟨rfl, hnm, -⟩ := hRq
 obtain ⟨q1, q2, q3⟩ := hok.ctrs (i := (fct t.fcs fi).centre.toNat) (by omega)
 have hw := wrong_bd hok hfo htk
 refine enter Tryz.func91 rfl Tryz.ntmps91 rfl ?_
 have hS := St.start w0
 refine seq <| region ?_
 refine sbox hS rfl rfl ?_; clear hS; intro b3 w hS
 refine sv (yAsg rfl) <| nil <| cwQ <| seq <| region <| sv (fa29_6 rfl) <| sv (yLdB rfl Tryz.isAgg27 (hS.at _) rfl) <| sv (yMove rfl) <| sv (yIxa rfl haf rfl Tryz.runUnderlying27 Tryz.sizeOf61 (by omega) (by omega)) ?_
 refine sv (yLdA rfl Tryz.isAgg61 Tryz.sizeOf61 (hcf.ext hS.ext) rfl) ?_
 refine salloc hS Tryz.zeroValue61 rfl ?_; clear hS; intro b7 w hS
 refine sst hS rfl rfl Tryz.sizeOf61 rfl rfl rfl rfl ?_; clear hS; intro w hS
 refine nil <| cwQ <| seq <| region <| sv (fa29_5 rfl) <| sv (yLdB rfl Tryz.isAgg26 (hS.at _) rfl) <| sv (fa61_0 rfl) <| sv (yLdB rfl Tryz.isAgg3 (hS.at _) rfl) <| sv (yIxa rfl haq rfl Tryz.runUnderlying26 Tryz.sizeOf57 (by omega) (by omega)) ?_
 refine sv (yLdA rfl Tryz.isAgg57 Tryz.sizeOf57 (hcq.ext hS.ext) rfl) ?_
 refine salloc hS Tryz.zeroValue57 rfl ?_; clear hS; intro b8 w hS
 refine sst hS rfl rfl Tryz.sizeOf57 rfl rfl rfl rfl ?_; clear hS; intro w hS
 refine nil <| cwQ <| seq <| region <| sv (fa57_2 rfl) <| sv (yLdB rfl Tryz.isAgg3 (hS.at _) rfl) <| sv (fa57_3 rfl) <| sv (yLdB rfl Tryz.isAgg3 (hS.at _) rfl) <| sv (yMove rfl) ?_
 refine sv (fa61_1 rfl) <| sv (yLdB rfl Tryz.isAgg3 (hS.at _) rfl) <| sv (ySub rfl rfl ⟨by omega, by omega⟩) <| sv (yMax rfl rfl) <| sv (yAdd rfl rfl ⟨by omega, by omega⟩) <| sv (ySub rfl rfl ⟨by omega, by omega⟩) <| sv (Y.to (yQuoP rfl rfl ⟨by omega, by omega⟩ (by omega)) (congrArg (Value.int .i64) (hour_eq (fct t.fcs fi) tick))) <| sv (yMul rfl rfl ⟨by omega, by omega⟩) <| sv (yAdd rfl rfl ⟨by omega, by omega⟩) ?_
 refine sv (yAsg rfl) <| nil <| cwQ <| wp_ret ?_
 exact retV (res1 rfl rfl) hS.ext
set_option maxHeartbeats 2000000 in
theorem c_rtube {t : Sgt} {cs : List Value} {fi mi : Nat} {w0 : World} (h : RSgt w0 cs t) (hok : SgOk t) (hfi : fi < t.fcs.length) (hmi : mi < (fct t.fcs fi).members.length) : CE Tryz.prog 87 #[.agg cs.toArray, .int .i64 (fi : Int), .int .i64 (mi : Int)] w0 (fun u w' => St w0 w' [rowI u 74 2 t.ticks.toNat ((tubeS t (fct t.fcs fi) (mem (fct t.fcs fi) mi)).flatMap spanC)]) := by
 obtain ⟨cv, gv, tv, fv, rfl, hT, hG, hw64, hf64, hk64, hC, hF, hl64, hm64, hr64, hq64⟩ := id h
 obtain ⟨ag, cg, rfl, hgcap, hgmx, hgel⟩ := id hG
 obtain ⟨ak, ck, rfl, hkcap, hkmx, hkel⟩ := id hC
 obtain ⟨ae, ce, rfl, hecap, hemx, heel⟩ := id hF
 have hfo := hok.fcts hfi
 have htk := hok.tk
 have htf := hok.levs.2
 have hfr := hfo.frm
 obtain ⟨bf, of, cf, haf, hlf, hcf, hRf, -⟩ := sl_at hF (fct_get hfi)
 obtain ⟨mv, rfl, hf1, hf2, hf3, hMm⟩ := hRf
 obtain ⟨am, cm, rfl, -⟩ := id hMm
 obtain ⟨bm, om, csm, ham, -, hcm, hRm, -⟩ := sl_at hMm (mem_at hmi)
 obtain ⟨vm, rfl, hvm⟩ := hRm
 obtain ⟨an, cn9, rfl, hncap, hnmx, -⟩ := id hvm
 have hlen := hfo.len _ (mem_in hmi)
 have htl := tubeS_len t (fct t.fcs fi) (mem (fct t.fcs fi) mi)
 refine enter Tryz.func87 rfl Tryz.ntmps87 rfl ?_
 have hS := St.start w0
 refine seq <| region ?_
 refine sbox hS rfl rfl ?_; clear hS; intro b3 w hS
 refine sv (yAsg rfl) <| nil <| cwQ <| seq <| region <| sv (fa29_0 rfl) <| sv (yLdBA rfl Tryz.isAgg24 Tryz.sizeOf24 (hS.at _) rfl rfl) <| sv (fa29_3 rfl) <| sv (yLdB rfl Tryz.isAgg3 (hS.at _) rfl) ?_
 refine sv (fa29_4 rfl) <| sv (yLdB rfl Tryz.isAgg3 (hS.at _) rfl) ?_
 refine scall Tryz.call59 (.cons rfl (.cons rfl (.cons rfl .nil))) (c_rLevels (hT.ext hS.ext) hf64 hk64) ?_
 rintro _ w ⟨tv, rfl, hM⟩; replace hS := hS.call1 hM; clear hM
 rw [levelsF_good hok.lev, show lvlsL t.table t.frm t.ticks.toNat = tidesS t from rfl, tidesS_len] at hS
 obtain ⟨att, ctt, rfl⟩ := row_shape (hS.row tv)
 refine sv (yMove rfl) <| sv (yExt rfl rfl) <| sv (yExt rfl rfl) <| sv (yAsg rfl) <| sv (yAsg rfl) <| nil <| cwQ <| seq <| region ?_
 refine sv (fa29_6 rfl) <| sv (yLdB rfl Tryz.isAgg27 (hS.at _) rfl) <| sv (yMove rfl) <| sv (yIxa rfl haf rfl Tryz.runUnderlying27 Tryz.sizeOf61 (by omega) (by omega)) <| sv (yLdA rfl Tryz.isAgg61 Tryz.sizeOf61 (hcf.ext hS.ext) rfl) ?_
 refine salloc hS Tryz.zeroValue61 rfl ?_; clear hS; intro b9 w hS
 refine sst hS rfl rfl Tryz.sizeOf61 rfl rfl rfl rfl ?_; clear hS; intro w hS
 refine nil <| cwQ <| seq <| region <| sv (yAsg rfl) <| nil <| cwQ <| seq <| seq ?_
 refine region <| sv (yAsg rfl) <| nil <| cwQ <| block <| loop (fun f w zz => ∃ (k : Nat) (ov : Value), f 1 = .int .i64 (fi : Int) ∧ f 2 = .int .i64 (mi : Int) ∧ f 3 = .pointer (some ⟨b3, 0, none⟩) ∧ f 7 = .slice att t.ticks.toNat ctt ∧ f 9 = .pointer (some ⟨b9, 0, none⟩) ∧ f 10 = ov ∧ f 11 = .int .i64 (k : Int) ∧ StX [] w0 w [rowI (ov) 74 2 k (((tubeS t (fct t.fcs fi) (mem (fct t.fcs fi) mi)).take k).flatMap spanC), blk b9 [.int .i64 (fct t.fcs fi).centre, .int .i64 (fct t.fcs fi).issued, .int .i64 (fct t.fcs fi).frm, .slice am (fct t.fcs fi).members.length cm] 61, rowI (.slice att t.ticks.toNat ctt) 74 2 t.ticks.toNat ((tidesS t).flatMap spanC), blk b3 [.int .i64 t.table.mean, cv, .slice ag t.gauges.length cg, .int .i64 t.wrong, .int .i64 t.frm, .int .i64 t.ticks, .slice ak t.ctrs.length ck, .slice ae t.fcs.length ce, .int .i64 t.least, .int .i64 t.most, .int .i64 t.rate, .int .i64 t.quorum] 29] ∧ (k ≤ t.ticks.toNat) ∧ zz = t.ticks.toNat - k) _ ⟨_, rfl, 0, _, rfl, rfl, rfl, rfl, rfl, rfl, rfl, (hS.nilrow 74 2), (Nat.zero_le _), rfl⟩ ?_
 clear hS
 rintro f w _ ⟨k, ov, h1, h2, h3, h7, h9, h10, h11, hS, hk, rfl⟩
 refine seq <| seq <| region <| sv (yMove h11) <| sv (fa29_4 h3) <| sv (yLdB rfl Tryz.isAgg3 (hS.at _) rfl) <| sv (yLss rfl rfl) <| nil <| cwQ ?_
 refine cond rfl (fun c33 => ?_) (fun c33 => ?_)
 ·
  simp only [BS, ne_eq] at c33
  have hkl : k < t.ticks.toNat := by omega
  obtain ⟨gt, rfl, -⟩ := row_get (hS.row (.slice att t.ticks.toNat ctt)) (by omega)
  refine skip <| cwQ <| seq <| block <| seq <| region <| sv (fa29_3 h3) <| sv (yLdB rfl Tryz.isAgg3 (hS.at _) rfl) <| sv (yMove h11) ?_
  refine sv (yAdd rfl rfl ⟨by omega, by omega⟩) <| sv (fa61_2 h9) <| sv (yLdB rfl Tryz.isAgg3 (hS.at _) rfl) <| sv (ySub rfl rfl ⟨by omega, by omega⟩) <| sv (yAsg rfl) <| nil <| cwQ <| seq <| seq ?_
  refine region <| sv (yMove rfl) <| sv (fa61_3 h9) <| sv (yLdB rfl Tryz.isAgg59 (hS.at _) rfl) <| sv (yMove h2) <| sv (yIxa rfl ham rfl Tryz.runUnderlying59 Tryz.sizeOf39 (by omega) (by omega)) <| sv (yLd rfl Tryz.isAgg39 (hcm.ext hS.ext).one) <| sv (yLen rfl Tryz.underlying39) <| sv (ySub rfl rfl ⟨by omega, by omega⟩) ?_
  refine scall Tryz.call58 (.cons rfl (.cons rfl (.cons rfl .nil))) c_inS ?_
  rintro _ w ⟨rfl, hE⟩; replace hS := hS.step hE; clear hE
  refine sv (yNot rfl) <| nil <| cwQ ?_
  refine cond rfl (fun c52 => ?_) (fun c52 => ?_)
  ·
   rw [inB_not] at c52
   have hat := tub_out (t := t) c52
   refine seq <| region <| sv (yMove h10) <| sv (yBuild Tryz.zeroValue74 rfl pl74 (.cons rfl rfl (.cons rfl rfl .nil)) rfl) ?_
   refine sbslice hS Tryz.underlying86 Tryz.sizeOf74 rfl Tryz.zeroValue74 rfl (.cons rfl rfl .nil) rfl ?_; clear hS; intro b55 w hS
   refine sapp (bytes := 16) (size := 2) (v := ov) (m := 1) hS rfl rfl Tryz.underlying86 ti74 rfl rfl rfl rfl (by decide) (blk_cells (hS.at _)) rfl rfl (by omega) (by omega) ?_; clear hS; intro v56 w hS
   refine sv (yAsg rfl) <| nil <| cwQ <| exit <| cwQ <| region <| sv (yMove h11) <| sv (yAdd rfl rfl ⟨by omega, by omega⟩) <| sv (yAsg rfl) ?_
   refine nil ?_
   exact ⟨_, _, rfl, ⟨k + 1, _, h1, h2, h3, h7, h9, rfl, rfl, (by rw [take_snoc (tubeS_get (show k < t.ticks.toNat by omega)), List.flatMap_append, hat]; refine hS.sub ?_; repeat first | exact List.Sublist.refl _ | exact List.nil_sublist _ | apply List.Sublist.cons_cons | apply List.Sublist.cons), (by omega), rfl⟩, by omega⟩
  ·
   rw [inB_not] at c52
   have hat := tub_in (t := t) c52
   obtain ⟨z1, z2⟩ := outB_false.1 c52
   have hgl : (t.frm + (k : Int) - (fct t.fcs fi).frm).toNat < (mem (fct t.fcs fi) mi).length := by omega
   have hv := mem_val hfo hmi hgl
   obtain ⟨bx, ox, cx, hax, -, hcx, hRx, -⟩ := sl_at hvm (show (mem (fct t.fcs fi) mi)[(t.frm + (k : Int) - (fct t.fcs fi).frm).toNat]? = some ((mem (fct t.fcs fi) mi).getD (t.frm + (k : Int) - (fct t.fcs fi).frm).toNat 0) by simp [List.getD, hgl])
   obtain ⟨rfl, -⟩ := hRx
   have htick : Bd (t.frm + (k : Int)) 0 200000 := ⟨by omega, by omega⟩
   have hw := wrong_bd hok hfo htick
   have htd := tide_sbd hok k
   unfold SBd at htd
   refine skip <| cwQ <| seq <| region_draw mixed (by kernel_rfl) hS <| qv (fun w hS => (fa61_3 h9)) <| qv (fun w hS => (yLdB rfl Tryz.isAgg59 (hS.at _) rfl)) <| qv (fun w hS => (yMove h2)) <| qv (fun w hS => (yIxa rfl ham rfl Tryz.runUnderlying59 Tryz.sizeOf39 (by omega) (by omega))) <| qv (fun w hS => (yLd rfl Tryz.isAgg39 (hcm.ext hS.ext).one)) ?_
   refine qv (fun w hS => (yMove rfl)) <| qv (fun w hS => (yIxa rfl hax rfl Tryz.runUnderlying39 Tryz.sizeOf3 (by omega) (by omega))) <| qv (fun w hS => (yLd rfl Tryz.isAgg3 (hcx.ext hS.ext).one)) <| qv (fun w hS => (yLdBA h3 Tryz.isAgg29 Tryz.sizeOf29 (hS.at _) rfl rfl)) <| qv (fun w hS => (yMove h1)) <| qv (fun w hS => (fa29_3 h3)) <| qv (fun w hS => (yLdB rfl Tryz.isAgg3 (hS.at _) rfl)) <| qv (fun w hS => (yMove h11)) <| qv (fun w hS => (yAdd rfl rfl ⟨by omega, by omega⟩)) ?_
   refine qcall Tryz.call91 (.cons rfl (.cons rfl (.cons rfl .nil))) (fun w hS => (c_rwrong (h.ext hS.ext) hok hfi htick)) <| qv (fun w hS => (yAsg rfl)) <| qv (fun w hS => (yAsg rfl)) ?_
   clear hS; refine qnil (fun w hS => ?_)
   refine cwQ <| region_mix (fun w => StX [] w0 w [rowI (.slice (some ⟨gt, 0, none⟩) t.ticks.toNat ctt) 74 2 t.ticks.toNat ((tidesS t).flatMap spanC)]) 23 mixed hS ?_
   clear hS; intro w hS
   refine f_step 0 (by kernel_rfl) rfl (fun c a a' w h => by obtain ⟨_, v, hv, _⟩ := h; cases hv) (by refine hS.sub ?_; repeat first | exact List.Sublist.refl _ | exact List.nil_sublist _ | apply List.Sublist.cons_cons | apply List.Sublist.cons) (fun w hS => (yMove h10)) ?_
   refine f_step 1 (by kernel_rfl) rfl (fun c a a' w h => by obtain ⟨_, v, hv, _⟩ := h; cases hv) (by refine hS.sub ?_; repeat first | exact List.Sublist.refl _ | exact List.nil_sublist _ | apply List.Sublist.cons_cons | apply List.Sublist.cons) (fun w hS => (yMove h7)) ?_
   refine f_step 2 (by kernel_rfl) rfl (fun c a a' w h => by obtain ⟨_, v, hv, _⟩ := h; cases hv) (by refine hS.sub ?_; repeat first | exact List.Sublist.refl _ | exact List.nil_sublist _ | apply List.Sublist.cons_cons | apply List.Sublist.cons) (fun w hS => (yMove h11)) ?_
   refine f_step 3 (by kernel_rfl) rfl (fun c a a' w h => by obtain ⟨_, v, hv, _⟩ := h; cases hv) (by refine hS.sub ?_; repeat first | exact List.Sublist.refl _ | exact List.nil_sublist _ | apply List.Sublist.cons_cons | apply List.Sublist.cons) (fun w hS => (yIxa rfl rfl rfl Tryz.runUnderlying86 Tryz.sizeOf74 (by omega) (by omega))) ?_
   refine f_step 4 (by kernel_rfl) rfl (fun c a a' w h => by obtain ⟨_, v, hv, _⟩ := h; cases hv) (by refine hS.sub ?_; repeat first | exact List.Sublist.refl _ | exact List.nil_sublist _ | apply List.Sublist.cons_cons | apply List.Sublist.cons) (fun w hS => (fa74_0 rfl)) ?_
   refine f_step 5 (by kernel_rfl) rfl (fun c a a' w h => by obtain ⟨_, v, hv, _⟩ := h; cases hv) (by refine hS.sub ?_; repeat first | exact List.Sublist.refl _ | exact List.nil_sublist _ | apply List.Sublist.cons_cons | apply List.Sublist.cons) (fun w hS => (yLd rfl Tryz.isAgg3 (show w.cell? ⟨gt, 0 + (k : Int).toNat * 2 + 0, none⟩ = _ by rw [show 0 + (k : Int).toNat * 2 + 0 = k * 2 + 0 by omega]; exact (flat_cells0 (enc := spanC) spanC_len (row_at (hS.row (.slice (some ⟨gt, 0, none⟩) t.ticks.toNat ctt)) rfl (by omega)) (tidesS_get (t := t) (i := k) (by omega))).at (j := 0) rfl))) ?_
   refine f_step 6 (by kernel_rfl) rfl (fun c a a' w h => by obtain ⟨_, v, hv, _⟩ := h; cases hv) (by refine hS.sub ?_; repeat first | exact List.Sublist.refl _ | exact List.nil_sublist _ | apply List.Sublist.cons_cons | apply List.Sublist.cons) (fun w hS => (yMove rfl)) ?_
   refine f_step 7 (by kernel_rfl) rfl (fun c a a' w h => by obtain ⟨_, v, hv, _⟩ := h; cases hv) (by refine hS.sub ?_; repeat first | exact List.Sublist.refl _ | exact List.nil_sublist _ | apply List.Sublist.cons_cons | apply List.Sublist.cons) (fun w hS => (yAdd rfl rfl ⟨by omega, by omega⟩)) ?_
   refine f_step 8 (by kernel_rfl) rfl (fun c a a' w h => by obtain ⟨_, v, hv, _⟩ := h; cases hv) (by refine hS.sub ?_; repeat first | exact List.Sublist.refl _ | exact List.nil_sublist _ | apply List.Sublist.cons_cons | apply List.Sublist.cons) (fun w hS => (yMove rfl)) ?_
   refine f_step 9 (by kernel_rfl) rfl (fun c a a' w h => by obtain ⟨_, v, hv, _⟩ := h; cases hv) (by refine hS.sub ?_; repeat first | exact List.Sublist.refl _ | exact List.nil_sublist _ | apply List.Sublist.cons_cons | apply List.Sublist.cons) (fun w hS => (ySub rfl rfl ⟨by omega, by omega⟩)) ?_
   refine f_step 10 (by kernel_rfl) rfl (fun c a a' w h => by obtain ⟨_, v, hv, _⟩ := h; cases hv) (by refine hS.sub ?_; repeat first | exact List.Sublist.refl _ | exact List.nil_sublist _ | apply List.Sublist.cons_cons | apply List.Sublist.cons) (fun w hS => (yMove h7)) ?_
   refine f_step 11 (by kernel_rfl) rfl (fun c a a' w h => by obtain ⟨_, v, hv, _⟩ := h; cases hv) (by refine hS.sub ?_; repeat first | exact List.Sublist.refl _ | exact List.nil_sublist _ | apply List.Sublist.cons_cons | apply List.Sublist.cons) (fun w hS => (yMove h11)) ?_
   refine f_step 12 (by kernel_rfl) rfl (fun c a a' w h => by obtain ⟨_, v, hv, _⟩ := h; cases hv) (by refine hS.sub ?_; repeat first | exact List.Sublist.refl _ | exact List.nil_sublist _ | apply List.Sublist.cons_cons | apply List.Sublist.cons) (fun w hS => (yIxa rfl rfl rfl Tryz.runUnderlying86 Tryz.sizeOf74 (by omega) (by omega))) ?_
   refine f_step 13 (by kernel_rfl) rfl (fun c a a' w h => by obtain ⟨_, v, hv, _⟩ := h; cases hv) (by refine hS.sub ?_; repeat first | exact List.Sublist.refl _ | exact List.nil_sublist _ | apply List.Sublist.cons_cons | apply List.Sublist.cons) (fun w hS => (fa74_1 rfl)) ?_
   refine f_step 14 (by kernel_rfl) rfl (fun c a a' w h => by obtain ⟨_, v, hv, _⟩ := h; cases hv) (by refine hS.sub ?_; repeat first | exact List.Sublist.refl _ | exact List.nil_sublist _ | apply List.Sublist.cons_cons | apply List.Sublist.cons) (fun w hS => (yLd rfl Tryz.isAgg3 (show w.cell? ⟨gt, 0 + (k : Int).toNat * 2 + 1, none⟩ = _ by rw [show 0 + (k : Int).toNat * 2 + 1 = k * 2 + 1 by omega]; exact (flat_cells0 (enc := spanC) spanC_len (row_at (hS.row (.slice (some ⟨gt, 0, none⟩) t.ticks.toNat ctt)) rfl (by omega)) (tidesS_get (t := t) (i := k) (by omega))).at (j := 1) rfl))) ?_
   refine f_step 15 (by kernel_rfl) rfl (fun c a a' w h => by obtain ⟨_, v, hv, _⟩ := h; cases hv) (by refine hS.sub ?_; repeat first | exact List.Sublist.refl _ | exact List.nil_sublist _ | apply List.Sublist.cons_cons | apply List.Sublist.cons) (fun w hS => (yMove rfl)) ?_
   refine f_step 16 (by kernel_rfl) rfl (fun c a a' w h => by obtain ⟨_, v, hv, _⟩ := h; cases hv) (by refine hS.sub ?_; repeat first | exact List.Sublist.refl _ | exact List.nil_sublist _ | apply List.Sublist.cons_cons | apply List.Sublist.cons) (fun w hS => (yAdd rfl rfl ⟨by omega, by omega⟩)) ?_
   refine f_step 17 (by kernel_rfl) rfl (fun c a a' w h => by obtain ⟨_, v, hv, _⟩ := h; cases hv) (by refine hS.sub ?_; repeat first | exact List.Sublist.refl _ | exact List.nil_sublist _ | apply List.Sublist.cons_cons | apply List.Sublist.cons) (fun w hS => (yMove rfl)) ?_
   refine f_step 18 (by kernel_rfl) rfl (fun c a a' w h => by obtain ⟨_, v, hv, _⟩ := h; cases hv) (by refine hS.sub ?_; repeat first | exact List.Sublist.refl _ | exact List.nil_sublist _ | apply List.Sublist.cons_cons | apply List.Sublist.cons) (fun w hS => (yAdd rfl rfl ⟨by omega, by omega⟩)) ?_
   refine f_step 19 (by kernel_rfl) rfl (fun c a a' w h => by obtain ⟨_, v, hv, _⟩ := h; cases hv) (by refine hS.sub ?_; repeat first | exact List.Sublist.refl _ | exact List.nil_sublist _ | apply List.Sublist.cons_cons | apply List.Sublist.cons) (fun w hS => (yBuild Tryz.zeroValue74 rfl pl74 (.cons rfl rfl (.cons rfl rfl .nil)) rfl)) ?_
   refine awQ <| a1Q 20 (by kernel_rfl) rfl ?_
   refine sbslice hS Tryz.underlying86 Tryz.sizeOf74 rfl Tryz.zeroValue74 rfl (.cons rfl rfl .nil) rfl ?_; clear hS; intro b92 w hS
   refine nil ?_
   refine ⟨fun _ => (by refine hS.sub ?_; repeat first | exact List.Sublist.refl _ | exact List.nil_sublist _ | apply List.Sublist.cons_cons | apply List.Sublist.cons), ?_⟩
   refine awQ <| awQ <| a1Q 21 (by kernel_rfl) rfl ?_
   refine sapp (bytes := 16) (size := 2) (v := ov) (m := 1) hS rfl rfl Tryz.underlying86 ti74 rfl rfl rfl rfl (by decide) (blk_cells (hS.at _)) rfl rfl (by omega) (by omega) ?_; clear hS; intro v93 w hS
   refine nil ?_
   refine ⟨fun _ => (by refine hS.sub ?_; repeat first | exact List.Sublist.refl _ | exact List.nil_sublist _ | apply List.Sublist.cons_cons | apply List.Sublist.cons), ?_⟩
   refine awQ ?_
   refine f_step 22 (by kernel_rfl) rfl (fun c a a' w h => by obtain ⟨_, v, hv, _⟩ := h; cases hv) (by refine hS.sub ?_; repeat first | exact List.Sublist.refl _ | exact List.nil_sublist _ | apply List.Sublist.cons_cons | apply List.Sublist.cons) (fun w hS => (yAsg rfl)) ?_
   refine a_end (by kernel_rfl) <| cwQ <| region <| sv (yMove h11) <| sv (yAdd rfl rfl ⟨by omega, by omega⟩) <| sv (yAsg rfl) <| nil ?_
   exact ⟨_, _, rfl, ⟨k + 1, _, h1, h2, h3, h7, h9, rfl, rfl, (by rw [take_snoc (tubeS_get (show k < t.ticks.toNat by omega)), List.flatMap_append, hat]; refine hS.sub ?_; repeat first | exact List.Sublist.refl _ | exact List.nil_sublist _ | apply List.Sublist.cons_cons | apply List.Sublist.cons), (by omega), rfl⟩, by omega⟩
 ·
  simp only [BS, ne_eq] at c33
  have hkk : k = t.ticks.toNat := by omega
  rw [hkk, ← htl, List.take_length, htl] at hS
  refine exit <| cwQ <| seq <| region <| sv (yMove h10) <| sv (yAsg rfl) <| nil <| cwQ <| wp_ret ?_
  refine retQ (res1 rfl rfl) ?_
  exact hS.sub (.cons_cons _ (List.nil_sublist _))
end Go.Proofs.YtgidbailiababaaGreatDoor

/- part Sy5 -/
namespace Go.Proofs.YtgidbailiababaaGreatDoor
open Go Bx
theorem c_rcommon {a b : Span} {w0 : World} : CV Tryz.prog 88 #[.agg (spanC a).toArray, .agg (spanC b).toArray] w0 (.agg (spanC (cutS a b)).toArray) := by
 refine enter Tryz.func88 rfl Tryz.ntmps88 rfl ?_
 have hS := St.start w0
 refine seq <| region ?_
 refine sbox hS rfl rfl ?_; clear hS; intro b2 w hS
 refine sbox hS rfl rfl ?_; clear hS; intro b3 w hS
 refine salloc hS Tryz.zeroValue74 rfl ?_; clear hS; intro b4 w hS
 refine nil <| cwQ <| seq <| region <| sv (fa74_0 rfl) <| sv (yLdB rfl Tryz.isAgg3 (hS.at _) rfl) <| sv (fa74_0 rfl) <| sv (yLdB rfl Tryz.isAgg3 (hS.at _) rfl) <| sv (yMax rfl rfl) ?_
 refine sv (fa74_1 rfl) <| sv (yLdB rfl Tryz.isAgg3 (hS.at _) rfl) <| sv (fa74_1 rfl) <| sv (yLdB rfl Tryz.isAgg3 (hS.at _) rfl) <| sv (yMin rfl rfl) <| sv (yBuild Tryz.zeroValue74 rfl pl74 (.cons rfl rfl (.cons rfl rfl .nil)) rfl) ?_
 refine sst hS rfl rfl Tryz.sizeOf74 rfl rfl rfl rfl ?_; clear hS; intro w hS
 refine nil <| cwQ <| wp_ret ?_
 exact retV (resV1 rfl (rc rfl Tryz.isAgg74 Tryz.sizeOf74 (hS.at _) rfl rfl)) hS.ext
set_option maxHeartbeats 2000000 in
theorem c_rbase {t : Sgt} {cs : List Value} {now : Int} {w0 : World} (h : RSgt w0 cs t) (hok : SgOk t) : CE Tryz.prog 86 #[.agg cs.toArray, .int .i64 now] w0 (fun u w' => St w0 w' [rowI u 74 2 t.ticks.toNat ((baseS t now).flatMap spanC)]) := by
 obtain ⟨cv, gv, tv, fv, rfl, hT, hG, hw64, hf64, hk64, hC, hF, hl64, hm64, hr64, hq64⟩ := id h
 obtain ⟨ag, cg, rfl, hgcap, hgmx, hgel⟩ := id hG
 obtain ⟨ak, ck, rfl, hkcap, hkmx, hkel⟩ := id hC
 obtain ⟨ae, ce, rfl, hecap, hemx, heel⟩ := id hF
 have htk := hok.tk
 have htf := hok.levs.2
 have hn4 := hok.nums4
 have hbl := baseS_len t now
 refine enter Tryz.func86 rfl Tryz.ntmps86 rfl ?_
 have hS := St.start w0
 refine seq <| region ?_
 refine sbox hS rfl rfl ?_; clear hS; intro b2 w hS
 refine sv (yAsg rfl) <| nil <| cwQ <| seq <| region <| sv (fa29_0 rfl) <| sv (yLdBA rfl Tryz.isAgg24 Tryz.sizeOf24 (hS.at _) rfl rfl) <| sv (fa29_3 rfl) <| sv (yLdB rfl Tryz.isAgg3 (hS.at _) rfl) ?_
 refine sv (fa29_4 rfl) <| sv (yLdB rfl Tryz.isAgg3 (hS.at _) rfl) ?_
 refine scall Tryz.call59 (.cons rfl (.cons rfl (.cons rfl .nil))) (c_rLevels (hT.ext hS.ext) hf64 hk64) ?_
 rintro _ w ⟨tv, rfl, hM⟩; replace hS := hS.call1 hM; clear hM
 rw [levelsF_good hok.lev, show lvlsL t.table t.frm t.ticks.toNat = tidesS t from rfl, tidesS_len] at hS
 obtain ⟨att, ctt, rfl⟩ := row_shape (hS.row tv)
 refine sv (yMove rfl) <| sv (yExt rfl rfl) <| sv (yExt rfl rfl) <| sv (yAsg rfl) <| sv (yAsg rfl) <| nil <| cwQ <| seq <| region ?_
 refine sv (yAsg rfl) <| nil <| cwQ <| seq <| seq <| region <| sv (yAsg rfl) <| nil <| cwQ ?_
 refine block <| loop (fun f w zz => ∃ (k : Nat) (ov : Value), f 1 = .int .i64 now ∧ f 2 = .pointer (some ⟨b2, 0, none⟩) ∧ f 5 = .slice att t.ticks.toNat ctt ∧ f 7 = ov ∧ f 8 = .int .i64 (k : Int) ∧ StX [] w0 w [rowI (ov) 74 2 k (((baseS t now).take k).flatMap spanC), rowI (.slice att t.ticks.toNat ctt) 74 2 t.ticks.toNat ((tidesS t).flatMap spanC), blk b2 [.int .i64 t.table.mean, cv, .slice ag t.gauges.length cg, .int .i64 t.wrong, .int .i64 t.frm, .int .i64 t.ticks, .slice ak t.ctrs.length ck, .slice ae t.fcs.length ce, .int .i64 t.least, .int .i64 t.most, .int .i64 t.rate, .int .i64 t.quorum] 29] ∧ (k ≤ t.ticks.toNat) ∧ zz = t.ticks.toNat - k) _ ⟨_, rfl, 0, _, rfl, rfl, rfl, rfl, rfl, (hS.nilrow 74 2), (Nat.zero_le _), rfl⟩ ?_
 clear hS
 rintro f w _ ⟨k, ov, h1, h2, h5, h7, h8, hS, hk, rfl⟩
 refine seq <| seq <| region <| sv (yMove h8) <| sv (fa29_4 h2) <| sv (yLdB rfl Tryz.isAgg3 (hS.at _) rfl) <| sv (yLss rfl rfl) <| nil <| cwQ ?_
 refine cond rfl (fun c25 => ?_) (fun c25 => ?_)
 ·
  simp only [BS, ne_eq] at c25
  have hkl : k < t.ticks.toNat := by omega
  obtain ⟨gt, rfl, -⟩ := row_get (hS.row (.slice att t.ticks.toNat ctt)) (by omega)
  have htd := tide_sbd hok k
  unfold SBd at htd
  refine skip <| cwQ <| seq <| block <| seq <| region_mix (fun w => StX [] w0 w [rowI (.slice (some ⟨gt, 0, none⟩) t.ticks.toNat ctt) 74 2 t.ticks.toNat ((tidesS t).flatMap spanC), blk b2 [.int .i64 t.table.mean, cv, .slice ag t.gauges.length cg, .int .i64 t.wrong, .int .i64 t.frm, .int .i64 t.ticks, .slice ak t.ctrs.length ck, .slice ae t.fcs.length ce, .int .i64 t.least, .int .i64 t.most, .int .i64 t.rate, .int .i64 t.quorum] 29]) 21 mixed hS ?_
  clear hS; intro w hS
  refine f_step 0 (by kernel_rfl) rfl (fun c a a' w h => by obtain ⟨_, v, hv, _⟩ := h; cases hv) (by refine hS.sub ?_; repeat first | exact List.Sublist.refl _ | exact List.nil_sublist _ | apply List.Sublist.cons_cons | apply List.Sublist.cons) (fun w hS => (yBuild Tryz.zeroValue74 rfl pl74 (.cons rfl rfl (.cons rfl rfl .nil)) rfl)) ?_
  refine f_step 1 (by kernel_rfl) rfl (fun c a a' w h => by obtain ⟨_, v, hv, _⟩ := h; cases hv) (by refine hS.sub ?_; repeat first | exact List.Sublist.refl _ | exact List.nil_sublist _ | apply List.Sublist.cons_cons | apply List.Sublist.cons) (fun w hS => (yMove h5)) ?_
  refine f_step 2 (by kernel_rfl) rfl (fun c a a' w h => by obtain ⟨_, v, hv, _⟩ := h; cases hv) (by refine hS.sub ?_; repeat first | exact List.Sublist.refl _ | exact List.nil_sublist _ | apply List.Sublist.cons_cons | apply List.Sublist.cons) (fun w hS => (yMove h8)) ?_
  refine f_step 3 (by kernel_rfl) rfl (fun c a a' w h => by obtain ⟨_, v, hv, _⟩ := h; cases hv) (by refine hS.sub ?_; repeat first | exact List.Sublist.refl _ | exact List.nil_sublist _ | apply List.Sublist.cons_cons | apply List.Sublist.cons) (fun w hS => (yIxa rfl rfl rfl Tryz.runUnderlying86 Tryz.sizeOf74 (by omega) (by omega))) ?_
  refine f_step 4 (by kernel_rfl) rfl (fun c a a' w h => by obtain ⟨_, v, hv, _⟩ := h; cases hv) (by refine hS.sub ?_; repeat first | exact List.Sublist.refl _ | exact List.nil_sublist _ | apply List.Sublist.cons_cons | apply List.Sublist.cons) (fun w hS => (fa74_0 rfl)) ?_
  refine f_step 5 (by kernel_rfl) rfl (fun c a a' w h => by obtain ⟨_, v, hv, _⟩ := h; cases hv) (by refine hS.sub ?_; repeat first | exact List.Sublist.refl _ | exact List.nil_sublist _ | apply List.Sublist.cons_cons | apply List.Sublist.cons) (fun w hS => (yLd rfl Tryz.isAgg3 (show w.cell? ⟨gt, 0 + (k : Int).toNat * 2 + 0, none⟩ = _ by rw [show 0 + (k : Int).toNat * 2 + 0 = k * 2 + 0 by omega]; exact (flat_cells0 (enc := spanC) spanC_len (row_at (hS.row (.slice (some ⟨gt, 0, none⟩) t.ticks.toNat ctt)) rfl (by omega)) (tidesS_get (t := t) (i := k) (by omega))).at (j := 0) rfl))) ?_
  refine f_step 6 (by kernel_rfl) rfl (fun c a a' w h => by obtain ⟨_, v, hv, _⟩ := h; cases hv) (by refine hS.sub ?_; repeat first | exact List.Sublist.refl _ | exact List.nil_sublist _ | apply List.Sublist.cons_cons | apply List.Sublist.cons) (fun w hS => (fa29_7 h2)) ?_
  refine f_step 7 (by kernel_rfl) rfl (fun c a a' w h => by obtain ⟨_, v, hv, _⟩ := h; cases hv) (by refine hS.sub ?_; repeat first | exact List.Sublist.refl _ | exact List.nil_sublist _ | apply List.Sublist.cons_cons | apply List.Sublist.cons) (fun w hS => (yLdB rfl Tryz.isAgg3 (hS.at _) rfl)) ?_
  refine f_step 8 (by kernel_rfl) rfl (fun c a a' w h => by obtain ⟨_, v, hv, _⟩ := h; cases hv) (by refine hS.sub ?_; repeat first | exact List.Sublist.refl _ | exact List.nil_sublist _ | apply List.Sublist.cons_cons | apply List.Sublist.cons) (fun w hS => (yAdd rfl rfl ⟨by omega, by omega⟩)) ?_
  refine f_step 9 (by kernel_rfl) rfl (fun c a a' w h => by obtain ⟨_, v, hv, _⟩ := h; cases hv) (by refine hS.sub ?_; repeat first | exact List.Sublist.refl _ | exact List.nil_sublist _ | apply List.Sublist.cons_cons | apply List.Sublist.cons) (fun w hS => (yMove h5)) ?_
  refine f_step 10 (by kernel_rfl) rfl (fun c a a' w h => by obtain ⟨_, v, hv, _⟩ := h; cases hv) (by refine hS.sub ?_; repeat first | exact List.Sublist.refl _ | exact List.nil_sublist _ | apply List.Sublist.cons_cons | apply List.Sublist.cons) (fun w hS => (yMove h8)) ?_
  refine f_step 11 (by kernel_rfl) rfl (fun c a a' w h => by obtain ⟨_, v, hv, _⟩ := h; cases hv) (by refine hS.sub ?_; repeat first | exact List.Sublist.refl _ | exact List.nil_sublist _ | apply List.Sublist.cons_cons | apply List.Sublist.cons) (fun w hS => (yIxa rfl rfl rfl Tryz.runUnderlying86 Tryz.sizeOf74 (by omega) (by omega))) ?_
  refine f_step 12 (by kernel_rfl) rfl (fun c a a' w h => by obtain ⟨_, v, hv, _⟩ := h; cases hv) (by refine hS.sub ?_; repeat first | exact List.Sublist.refl _ | exact List.nil_sublist _ | apply List.Sublist.cons_cons | apply List.Sublist.cons) (fun w hS => (fa74_1 rfl)) ?_
  refine f_step 13 (by kernel_rfl) rfl (fun c a a' w h => by obtain ⟨_, v, hv, _⟩ := h; cases hv) (by refine hS.sub ?_; repeat first | exact List.Sublist.refl _ | exact List.nil_sublist _ | apply List.Sublist.cons_cons | apply List.Sublist.cons) (fun w hS => (yLd rfl Tryz.isAgg3 (show w.cell? ⟨gt, 0 + (k : Int).toNat * 2 + 1, none⟩ = _ by rw [show 0 + (k : Int).toNat * 2 + 1 = k * 2 + 1 by omega]; exact (flat_cells0 (enc := spanC) spanC_len (row_at (hS.row (.slice (some ⟨gt, 0, none⟩) t.ticks.toNat ctt)) rfl (by omega)) (tidesS_get (t := t) (i := k) (by omega))).at (j := 1) rfl))) ?_
  refine f_step 14 (by kernel_rfl) rfl (fun c a a' w h => by obtain ⟨_, v, hv, _⟩ := h; cases hv) (by refine hS.sub ?_; repeat first | exact List.Sublist.refl _ | exact List.nil_sublist _ | apply List.Sublist.cons_cons | apply List.Sublist.cons) (fun w hS => (fa29_8 h2)) ?_
  refine f_step 15 (by kernel_rfl) rfl (fun c a a' w h => by obtain ⟨_, v, hv, _⟩ := h; cases hv) (by refine hS.sub ?_; repeat first | exact List.Sublist.refl _ | exact List.nil_sublist _ | apply List.Sublist.cons_cons | apply List.Sublist.cons) (fun w hS => (yLdB rfl Tryz.isAgg3 (hS.at _) rfl)) ?_
  refine f_step 16 (by kernel_rfl) rfl (fun c a a' w h => by obtain ⟨_, v, hv, _⟩ := h; cases hv) (by refine hS.sub ?_; repeat first | exact List.Sublist.refl _ | exact List.nil_sublist _ | apply List.Sublist.cons_cons | apply List.Sublist.cons) (fun w hS => (yAdd rfl rfl ⟨by omega, by omega⟩)) ?_
  refine f_step 17 (by kernel_rfl) rfl (fun c a a' w h => by obtain ⟨_, v, hv, _⟩ := h; cases hv) (by refine hS.sub ?_; repeat first | exact List.Sublist.refl _ | exact List.nil_sublist _ | apply List.Sublist.cons_cons | apply List.Sublist.cons) (fun w hS => (yBuild Tryz.zeroValue74 rfl pl74 (.cons rfl rfl (.cons rfl rfl .nil)) rfl)) ?_
  refine awQ ?_
  refine a_step (i := 18) (is := [19]) (by kernel_rfl) ⟨?_, ?_, trivial⟩
  ·
   refine ⟨_, rfl, ?_⟩
   refine scall Tryz.call88 (.cons rfl (.cons rfl .nil)) (c_rcommon (a := ⟨-20000, 20000⟩) (b := ⟨(tideS t k).lo + t.least, (tideS t k).hi + t.most⟩)) ?_
   rintro _ w ⟨rfl, hE⟩; replace hS := hS.step hE; clear hE
   refine nil ?_
   refine ⟨fun _ => (by refine hS.sub ?_; repeat first | exact List.Sublist.refl _ | exact List.nil_sublist _ | apply List.Sublist.cons_cons | apply List.Sublist.cons), ?_⟩
   refine awQ <| awQ <| a1Q 19 (by kernel_rfl) rfl ?_
   refine salloc hS Tryz.zeroValue74 rfl ?_; clear hS; intro b9 w hS
   refine nil ?_
   refine ⟨fun _ => (by refine hS.sub ?_; repeat first | exact List.Sublist.refl _ | exact List.nil_sublist _ | apply List.Sublist.cons_cons | apply List.Sublist.cons), ?_⟩
   refine awQ <| awQ <| a1Q 20 (by kernel_rfl) rfl ?_
   refine sst hS rfl rfl Tryz.sizeOf74 rfl rfl rfl rfl ?_; clear hS; intro w hS
   refine nil ?_
   refine ⟨fun _ => (by refine hS.sub ?_; repeat first | exact List.Sublist.refl _ | exact List.nil_sublist _ | apply List.Sublist.cons_cons | apply List.Sublist.cons), ?_⟩
   refine awQ <| a_end (by kernel_rfl) <| cwQ ?_
   refine seqJ (n := 74) (fun f w => f 1 = .int .i64 now ∧ f 2 = .pointer (some ⟨b2, 0, none⟩) ∧ f 5 = .slice (some ⟨gt, 0, none⟩) t.ticks.toNat ctt ∧ f 7 = ov ∧ f 8 = .int .i64 (k : Int) ∧ f 9 = .pointer (some ⟨b9, 0, none⟩) ∧ StX [] w0 w [blk b9 (spanC (baseAt t now k)) 74, rowI (ov) 74 2 k (((baseS t now).take k).flatMap spanC), rowI (.slice (some ⟨gt, 0, none⟩) t.ticks.toNat ctt) 74 2 t.ticks.toNat ((tidesS t).flatMap spanC), blk b2 [.int .i64 t.table.mean, cv, .slice ag t.gauges.length cg, .int .i64 t.wrong, .int .i64 t.frm, .int .i64 t.ticks, .slice ak t.ctrs.length ck, .slice ae t.fcs.length ce, .int .i64 t.least, .int .i64 t.most, .int .i64 t.rate, .int .i64 t.quorum] 29] ∧ True) ?_ ?_
   ·
    refine seq <| region <| sv (fa29_1 h2) <| sv (yLdB rfl Tryz.isAgg25 (hS.at _) rfl) <| sv (yLen rfl Tryz.underlying25) <| sv (yGtr rfl rfl) <| nil <| cwQ ?_
    refine cond rfl (fun c50 => ?_) (fun c50 => ?_)
    ·
     simp only [BS, ne_eq] at c50
     refine seq <| region <| sv (fa29_1 h2) <| sv (yLdB rfl Tryz.isAgg25 (hS.at _) rfl) <| sv (fa29_2 h2) <| sv (yLdB rfl Tryz.isAgg3 (hS.at _) rfl) <| sv (fa29_3 h2) <| sv (yLdB rfl Tryz.isAgg3 (hS.at _) rfl) <| sv (yMove h8) ?_
     refine sv (yAdd rfl rfl ⟨by omega, by omega⟩) <| sv (yMove h1) ?_
     refine scall Tryz.call142 (.cons rfl (.cons rfl (.cons rfl (.cons rfl .nil)))) (c_rSound (hG.ext RGauge.stays hS.ext)) ?_
     rw [← sound_law]
     rintro _ w ⟨rfl, hE⟩; replace hS := hS.step hE; clear hE
     refine sv (yMove rfl) <| sv (yExt rfl rfl) <| sv (yExt rfl rfl) ?_
     refine salloc hS Tryz.zeroValue74 rfl ?_; clear hS; intro b10 w hS
     refine sst hS rfl rfl Tryz.sizeOf74 rfl rfl rfl rfl ?_; clear hS; intro w hS
     refine sv (yAsg rfl) <| nil <| cwQ <| seq <| region <| sv (yMove rfl) <| sv (yEql rfl rfl) <| nil <| cwQ ?_
     refine cond rfl (fun c65 => ?_) (fun c65 => ?_)
     ·
      simp only [BS, ne_eq] at c65
      refine region <| sv (yLdBA rfl Tryz.isAgg74 Tryz.sizeOf74 (hS.at _) rfl rfl) <| sv (yLdBA rfl Tryz.isAgg74 Tryz.sizeOf74 (hS.at _) rfl rfl) ?_
      refine scall Tryz.call88 (.cons rfl (.cons rfl .nil)) (c_rcommon (a := surgeAt t k) (b := (soundF t.gauges t.wrong (t.frm + (k : Int)) now).1)) ?_
      rintro _ w ⟨rfl, hE⟩; replace hS := hS.step hE; clear hE
      refine sst hS rfl rfl Tryz.sizeOf74 rfl rfl rfl rfl ?_; clear hS; intro w hS
      refine nil ?_
      exact ⟨_, rfl, h1, h2, h5, h7, h8, rfl, (by rw [base_cut (by omega) c65]; refine hS.sub ?_; repeat first | exact List.Sublist.refl _ | exact List.nil_sublist _ | apply List.Sublist.cons_cons | apply List.Sublist.cons), trivial⟩
     ·
      simp only [BS, ne_eq] at c65
      refine skip ?_
      exact ⟨_, rfl, h1, h2, h5, h7, h8, rfl, (by rw [base_no (.inr c65)]; refine hS.sub ?_; repeat first | exact List.Sublist.refl _ | exact List.nil_sublist _ | apply List.Sublist.cons_cons | apply List.Sublist.cons), trivial⟩
    ·
     simp only [BS, ne_eq] at c50
     refine skip ?_
     exact ⟨_, rfl, h1, h2, h5, h7, h8, rfl, (by rw [base_no (.inl (by omega))]; refine hS.sub ?_; repeat first | exact List.Sublist.refl _ | exact List.nil_sublist _ | apply List.Sublist.cons_cons | apply List.Sublist.cons), trivial⟩
   ·
    clear hS; rintro f w ⟨h1, h2, h5, h7, h8, h9, hS, -⟩
    refine region <| sv (yMove h7) <| sv (yLdBA h9 Tryz.isAgg74 Tryz.sizeOf74 (hS.at _) rfl rfl) ?_
    refine sbslice hS Tryz.underlying86 Tryz.sizeOf74 rfl Tryz.zeroValue74 rfl (.cons rfl rfl .nil) rfl ?_; clear hS; intro b71 w hS
    refine sapp (bytes := 16) (size := 2) (v := ov) (m := 1) hS rfl rfl Tryz.underlying86 ti74 rfl rfl rfl rfl (by decide) (blk_cells (hS.at _)) rfl rfl (by omega) (by omega) ?_; clear hS; intro v72 w hS
    refine sv (yAsg rfl) <| nil <| cwQ <| region <| sv (yMove h8) <| sv (yAdd rfl rfl ⟨by omega, by omega⟩) <| sv (yAsg rfl) <| nil ?_
    exact ⟨_, _, rfl, ⟨k + 1, _, h1, h2, h5, rfl, rfl, (by rw [take_snoc (baseS_get (show k < t.ticks.toNat by omega)), List.flatMap_append]; refine hS.sub ?_; repeat first | exact List.Sublist.refl _ | exact List.nil_sublist _ | apply List.Sublist.cons_cons | apply List.Sublist.cons), (by omega), rfl⟩, by omega⟩
  ·
   refine ⟨_, rfl, ?_⟩
   refine salloc hS Tryz.zeroValue74 rfl ?_; clear hS; intro b9 w hS
   refine nil ?_
   refine ⟨fun _ => (by refine hS.sub ?_; repeat first | exact List.Sublist.refl _ | exact List.nil_sublist _ | apply List.Sublist.cons_cons | apply List.Sublist.cons), ?_⟩
   refine awQ <| awQ <| a1Q 18 (by kernel_rfl) rfl ?_
   refine scall Tryz.call88 (.cons rfl (.cons rfl .nil)) (c_rcommon (a := ⟨-20000, 20000⟩) (b := ⟨(tideS t k).lo + t.least, (tideS t k).hi + t.most⟩)) ?_
   rintro _ w ⟨rfl, hE⟩; replace hS := hS.step hE; clear hE
   refine nil ?_
   refine ⟨fun _ => (by refine hS.sub ?_; repeat first | exact List.Sublist.refl _ | exact List.nil_sublist _ | apply List.Sublist.cons_cons | apply List.Sublist.cons), ?_⟩
   refine awQ <| awQ <| a1Q 20 (by kernel_rfl) rfl ?_
   refine sst hS rfl rfl Tryz.sizeOf74 rfl rfl rfl rfl ?_; clear hS; intro w hS
   refine nil ?_
   refine ⟨fun _ => (by refine hS.sub ?_; repeat first | exact List.Sublist.refl _ | exact List.nil_sublist _ | apply List.Sublist.cons_cons | apply List.Sublist.cons), ?_⟩
   refine awQ <| a_end (by kernel_rfl) <| cwQ ?_
   refine seqJ (n := 74) (fun f w => f 1 = .int .i64 now ∧ f 2 = .pointer (some ⟨b2, 0, none⟩) ∧ f 5 = .slice (some ⟨gt, 0, none⟩) t.ticks.toNat ctt ∧ f 7 = ov ∧ f 8 = .int .i64 (k : Int) ∧ f 9 = .pointer (some ⟨b9, 0, none⟩) ∧ StX [] w0 w [blk b9 (spanC (baseAt t now k)) 74, rowI (ov) 74 2 k (((baseS t now).take k).flatMap spanC), rowI (.slice (some ⟨gt, 0, none⟩) t.ticks.toNat ctt) 74 2 t.ticks.toNat ((tidesS t).flatMap spanC), blk b2 [.int .i64 t.table.mean, cv, .slice ag t.gauges.length cg, .int .i64 t.wrong, .int .i64 t.frm, .int .i64 t.ticks, .slice ak t.ctrs.length ck, .slice ae t.fcs.length ce, .int .i64 t.least, .int .i64 t.most, .int .i64 t.rate, .int .i64 t.quorum] 29] ∧ True) ?_ ?_
   ·
    refine seq <| region <| sv (fa29_1 h2) <| sv (yLdB rfl Tryz.isAgg25 (hS.at _) rfl) <| sv (yLen rfl Tryz.underlying25) <| sv (yGtr rfl rfl) <| nil <| cwQ ?_
    refine cond rfl (fun c50 => ?_) (fun c50 => ?_)
    ·
     simp only [BS, ne_eq] at c50
     refine seq <| region <| sv (fa29_1 h2) <| sv (yLdB rfl Tryz.isAgg25 (hS.at _) rfl) <| sv (fa29_2 h2) <| sv (yLdB rfl Tryz.isAgg3 (hS.at _) rfl) <| sv (fa29_3 h2) <| sv (yLdB rfl Tryz.isAgg3 (hS.at _) rfl) <| sv (yMove h8) ?_
     refine sv (yAdd rfl rfl ⟨by omega, by omega⟩) <| sv (yMove h1) ?_
     refine scall Tryz.call142 (.cons rfl (.cons rfl (.cons rfl (.cons rfl .nil)))) (c_rSound (hG.ext RGauge.stays hS.ext)) ?_
     rw [← sound_law]
     rintro _ w ⟨rfl, hE⟩; replace hS := hS.step hE; clear hE
     refine sv (yMove rfl) <| sv (yExt rfl rfl) <| sv (yExt rfl rfl) ?_
     refine salloc hS Tryz.zeroValue74 rfl ?_; clear hS; intro b10 w hS
     refine sst hS rfl rfl Tryz.sizeOf74 rfl rfl rfl rfl ?_; clear hS; intro w hS
     refine sv (yAsg rfl) <| nil <| cwQ <| seq <| region <| sv (yMove rfl) <| sv (yEql rfl rfl) <| nil <| cwQ ?_
     refine cond rfl (fun c65 => ?_) (fun c65 => ?_)
     ·
      simp only [BS, ne_eq] at c65
      refine region <| sv (yLdBA rfl Tryz.isAgg74 Tryz.sizeOf74 (hS.at _) rfl rfl) <| sv (yLdBA rfl Tryz.isAgg74 Tryz.sizeOf74 (hS.at _) rfl rfl) ?_
      refine scall Tryz.call88 (.cons rfl (.cons rfl .nil)) (c_rcommon (a := surgeAt t k) (b := (soundF t.gauges t.wrong (t.frm + (k : Int)) now).1)) ?_
      rintro _ w ⟨rfl, hE⟩; replace hS := hS.step hE; clear hE
      refine sst hS rfl rfl Tryz.sizeOf74 rfl rfl rfl rfl ?_; clear hS; intro w hS
      refine nil ?_
      exact ⟨_, rfl, h1, h2, h5, h7, h8, rfl, (by rw [base_cut (by omega) c65]; refine hS.sub ?_; repeat first | exact List.Sublist.refl _ | exact List.nil_sublist _ | apply List.Sublist.cons_cons | apply List.Sublist.cons), trivial⟩
     ·
      simp only [BS, ne_eq] at c65
      refine skip ?_
      exact ⟨_, rfl, h1, h2, h5, h7, h8, rfl, (by rw [base_no (.inr c65)]; refine hS.sub ?_; repeat first | exact List.Sublist.refl _ | exact List.nil_sublist _ | apply List.Sublist.cons_cons | apply List.Sublist.cons), trivial⟩
    ·
     simp only [BS, ne_eq] at c50
     refine skip ?_
     exact ⟨_, rfl, h1, h2, h5, h7, h8, rfl, (by rw [base_no (.inl (by omega))]; refine hS.sub ?_; repeat first | exact List.Sublist.refl _ | exact List.nil_sublist _ | apply List.Sublist.cons_cons | apply List.Sublist.cons), trivial⟩
   ·
    clear hS; rintro f w ⟨h1, h2, h5, h7, h8, h9, hS, -⟩
    refine region <| sv (yMove h7) <| sv (yLdBA h9 Tryz.isAgg74 Tryz.sizeOf74 (hS.at _) rfl rfl) ?_
    refine sbslice hS Tryz.underlying86 Tryz.sizeOf74 rfl Tryz.zeroValue74 rfl (.cons rfl rfl .nil) rfl ?_; clear hS; intro b71 w hS
    refine sapp (bytes := 16) (size := 2) (v := ov) (m := 1) hS rfl rfl Tryz.underlying86 ti74 rfl rfl rfl rfl (by decide) (blk_cells (hS.at _)) rfl rfl (by omega) (by omega) ?_; clear hS; intro v72 w hS
    refine sv (yAsg rfl) <| nil <| cwQ <| region <| sv (yMove h8) <| sv (yAdd rfl rfl ⟨by omega, by omega⟩) <| sv (yAsg rfl) <| nil ?_
    exact ⟨_, _, rfl, ⟨k + 1, _, h1, h2, h5, rfl, rfl, (by rw [take_snoc (baseS_get (show k < t.ticks.toNat by omega)), List.flatMap_append]; refine hS.sub ?_; repeat first | exact List.Sublist.refl _ | exact List.nil_sublist _ | apply List.Sublist.cons_cons | apply List.Sublist.cons), (by omega), rfl⟩, by omega⟩
 ·
  simp only [BS, ne_eq] at c25
  have hkk : k = t.ticks.toNat := by omega
  rw [hkk, ← hbl, List.take_length, hbl] at hS
  refine exit <| cwQ <| seq <| region <| sv (yMove h7) <| sv (yAsg rfl) <| nil <| cwQ <| wp_ret ?_
  refine retQ (res1 rfl rfl) ?_
  exact hS.sub (.cons_cons _ (List.nil_sublist _))
end Go.Proofs.YtgidbailiababaaGreatDoor

/- part Sy6 -/
namespace Go.Proofs.YtgidbailiababaaGreatDoor
open Go Bx
set_option maxHeartbeats 1000000 in
theorem c_rhistory {t : Sgt} {cs : List Value} {now : Int} {s : Ser} {cs2 : List Value} {w0 : World} (h : RSgt w0 cs t) (hs : RSer w0 cs2 s) : CV Tryz.prog 77 #[.agg cs.toArray, .int .i64 now, .agg cs2.toArray] w0 (.int .i64 (hisE t now s)) := by
 obtain ⟨cv, gv, tv, fv, rfl, hT, hG, hw64, hf64, hk64, hC, hF, hl64, hm64, hr64, hq64⟩ := id h
 obtain ⟨ag, cg, rfl, hgcap, hgmx, hgel⟩ := id hG
 obtain ⟨ak, ck, rfl, hkcap, hkmx, hkel⟩ := id hC
 obtain ⟨ae, ce, rfl, hecap, hemx, heel⟩ := id hF
 obtain ⟨vv, rfl, hsf, hsv⟩ := hs
 obtain ⟨asv, csv, rfl, hscap, hsmx, -⟩ := id hsv
 refine enter Tryz.func77 rfl Tryz.ntmps77 rfl ?_
 have hS := St.start w0
 refine seq <| region ?_
 refine sbox hS rfl rfl ?_; clear hS; intro b3 w hS
 refine sbox hS rfl rfl ?_; clear hS; intro b5 w hS
 refine sv (yAsg rfl) <| nil <| cwQ <| seq <| region <| sv (yLdBA rfl Tryz.isAgg29 Tryz.sizeOf29 (hS.at _) rfl rfl) <| sv (yMove rfl) ?_
 refine scall Tryz.call65 (.cons rfl (.cons rfl .nil)) (c_ask (h.ext hS.ext)) ?_
 rintro _ w ⟨rfl, hE⟩; replace hS := hS.step hE; clear hE
 refine sv (yAsg rfl) <| nil <| cwQ ?_
 refine seqJ (n := 48) (fun f w => f 5 = .pointer (some ⟨b5, 0, none⟩) ∧ f 7 = .int .i64 (hisK t now s 0) ∧ StX [] w0 w [blk b5 [.int .i64 s.frm, .slice asv s.vals.length csv] 41] ∧ True) ?_ ?_
 ·
  refine seq <| region <| sv (yMove rfl) <| sv (yEql rfl rfl) <| sv (yMove rfl) ?_
  refine sg rfl rfl rfl (fun g => (fa41_0 rfl)) (fun v15 g15 => ?_)
  refine sg rfl rfl rfl (fun g => (yLdB (g15.1 g) Tryz.isAgg3 (hS.at _) rfl)) (fun v16 g16 => ?_)
  refine sg rfl rfl rfl (fun g => (fa29_3 rfl)) (fun v17 g17 => ?_)
  refine sg rfl rfl rfl (fun g => (yLdB (g17.1 g) Tryz.isAgg3 (hS.at _) rfl)) (fun v18 g18 => ?_)
  refine sg rfl rfl rfl (fun g => (yNeq (g16.1 g) (g18.1 g))) (fun v19 g19 => ?_)
  refine sg rfl rfl rfl (fun g => (yMove (g19.1 g))) (fun v20 g20 => ?_)
  refine sgg rfl rfl g20 (fun g => (fa41_1 rfl)) (fun v21 g21 => ?_)
  refine sgg rfl rfl g20 (fun g => (yLdB (g21.1 g) Tryz.isAgg39 (hS.at _) rfl)) (fun v22 g22 => ?_)
  refine sgg rfl rfl g20 (fun g => (yLen (g22.1 g) Tryz.underlying39)) (fun v23 g23 => ?_)
  refine sgg rfl rfl g20 (fun g => (fa29_4 rfl)) (fun v24 g24 => ?_)
  refine sgg rfl rfl g20 (fun g => (yLdB (g24.1 g) Tryz.isAgg3 (hS.at _) rfl)) (fun v25 g25 => ?_)
  refine sgg rfl rfl g20 (fun g => (yNeq (g23.1 g) (g25.1 g))) (fun v26 g26 => ?_)
  refine sg rfl rfl rfl (fun g => (yOr (g20.1 g) rfl (fun hB => (g26.1 ⟨g, hB⟩)))) (fun v27 g27 => ?_)
  refine sv (yAnd rfl (fun hB => (g27.1 hB)) rfl) <| nil <| cwQ ?_
  refine cond rfl (fun c28 => ?_) (fun c28 => ?_)
  ·
   refine region <| sv (yAsg rfl) <| nil ?_
   exact ⟨_, rfl, rfl, (rfl.trans (congrArg (Value.int .i64) (hisK_0a c28).symm)), (by refine hS.sub ?_; repeat first | exact List.Sublist.refl _ | exact List.nil_sublist _ | apply List.Sublist.cons_cons | apply List.Sublist.cons), trivial⟩
  ·
   refine skip ?_
   exact ⟨_, rfl, rfl, (rfl.trans (congrArg (Value.int .i64) (hisK_0b c28).symm)), (by refine hS.sub ?_; repeat first | exact List.Sublist.refl _ | exact List.nil_sublist _ | apply List.Sublist.cons_cons | apply List.Sublist.cons), trivial⟩
 ·
  clear hS; rintro f w ⟨h5, h7, hS, -⟩
  refine seq <| seq <| region <| sv (yAsg rfl) <| nil <| cwQ <| block <| loop (fun f w zz => ∃ (k : Nat) (E : Int), f 5 = .pointer (some ⟨b5, 0, none⟩) ∧ f 7 = .int .i64 E ∧ f 8 = .int .i64 (k : Int) ∧ StX [] w0 w [blk b5 [.int .i64 s.frm, .slice asv s.vals.length csv] 41] ∧ (k ≤ s.vals.length) ∧ (E = hisK t now s k) ∧ zz = s.vals.length - k) _ ⟨_, rfl, 0, _, h5, h7, rfl, hS, (Nat.zero_le _), (rfl), rfl⟩ ?_
  clear hS
  rintro f w _ ⟨k, E, h5, h7, h8, hS, hk, hE, rfl⟩
  refine seq <| seq <| region <| sv (yMove h8) <| sv (fa41_1 h5) <| sv (yLdB rfl Tryz.isAgg39 (hS.at _) rfl) <| sv (yLen rfl Tryz.underlying39) <| sv (yLss rfl rfl) <| sv (yMove rfl) ?_
  refine sg rfl rfl rfl (fun g => (yMove h7)) (fun v35 g35 => ?_)
  refine sg rfl rfl rfl (fun g => (yEql (g35.1 g) rfl)) (fun v36 g36 => ?_)
  refine sv (yAnd rfl (fun hB => (g36.1 hB)) rfl) <| nil <| cwQ ?_
  refine cond rfl (fun c37 => ?_) (fun c37 => ?_)
  ·
   simp only [BS, ne_eq] at c37
   have hkl : k < s.vals.length := by omega
   have he0 : E = 0 := c37.2
   have hxk : s.vals[k]? = some (s.vals.getD k 0) := by simp [List.getD, hkl]
   obtain ⟨bx, ox, cx, hax, -, hcx, hRx, -⟩ := sl_at hsv (show s.vals[k]? = some (s.vals.getD k 0) by simp [List.getD, show k < s.vals.length by omega])
   obtain ⟨rfl, -⟩ := hRx
   refine skip <| cwQ <| seq <| block <| seq <| region <| sv (fa41_1 h5) <| sv (yLdB rfl Tryz.isAgg39 (hS.at _) rfl) <| sv (yMove h8) ?_
   refine sv (yIxa rfl hax rfl Tryz.runUnderlying39 Tryz.sizeOf3 (by omega) (by omega)) <| sv (yLd rfl Tryz.isAgg3 (hcx.ext hS.ext).one) ?_
   refine scall Tryz.call58 (.cons rfl (.cons rfl (.cons rfl .nil))) c_inS ?_
   rintro _ w ⟨rfl, hE⟩; replace hS := hS.step hE; clear hE
   refine sv (yNot rfl) <| nil <| cwQ ?_
   refine cond rfl (fun c46 => ?_) (fun c46 => ?_)
   ·
    rw [inB_not] at c46
    refine region <| sv (yAsg rfl) <| nil <| cwQ <| region <| sv (yMove h8) <| sv (yAdd rfl rfl ⟨by omega, by omega⟩) <| sv (yAsg rfl) <| nil ?_
    exact ⟨_, _, rfl, ⟨k + 1, _, h5, rfl, rfl, hS, (by omega), ((hisK_yes (hE.symm.trans he0) hxk c46).symm), rfl⟩, by omega⟩
   ·
    rw [inB_not] at c46
    refine skip <| cwQ <| region <| sv (yMove h8) <| sv (yAdd rfl rfl ⟨by omega, by omega⟩) <| sv (yAsg rfl) <| nil ?_
    exact ⟨_, _, rfl, ⟨k + 1, _, h5, h7, rfl, hS, (by omega), (by rw [hisK_no (hE.symm.trans he0) hxk c46]; exact he0), rfl⟩, by omega⟩
  ·
   simp only [BS, ne_eq] at c37
   have hEi : E = hisE t now s := by
    by_cases h0 : E = 0
    ·
     rw [← hisK_all, hE, show k = s.vals.length by omega]
    ·
     rw [hisK_stop (by rw [← hE]; exact h0) hk]; exact hE
   refine exit <| cwQ <| seq <| region <| sv (yMove h7) <| sv (yAsg rfl) <| nil <| cwQ <| wp_ret ?_
   exact retV (res1 rfl (congrArg (Value.int .i64) hEi)) hS.ext
set_option maxHeartbeats 1000000 in
theorem c_rwithin {s : Ser} {l : List Span} {cs2 : List Value} {v : Value} {w0 : World} (hs : RSer w0 cs2 s) (hl : Sl w0 2 RSpan v l) (hn : s.vals.length = l.length) : CV Tryz.prog 139 #[.agg cs2.toArray, v] w0 (.bool (hasS l s.vals)) := by
 obtain ⟨vv, rfl, hsf, hsv⟩ := hs
 obtain ⟨asv, csv, rfl, hscap, hsmx, -⟩ := id hsv
 obtain ⟨al, cl, rfl, hlcap, hlmx, -⟩ := id hl
 refine enter Tryz.func139 rfl Tryz.ntmps139 rfl ?_
 have hS := St.start w0
 refine seq <| region ?_
 refine sbox hS rfl rfl ?_; clear hS; intro b2 w hS
 refine sv (yAsg rfl) <| nil <| cwQ <| seq <| seq <| region <| sv (yAsg rfl) <| nil <| cwQ ?_
 refine block <| loop (fun f w zz => ∃ (k : Nat), f 1 = .slice al l.length cl ∧ f 2 = .pointer (some ⟨b2, 0, none⟩) ∧ f 5 = .int .i64 (k : Int) ∧ StX [] w0 w [blk b2 [.int .i64 s.frm, .slice asv s.vals.length csv] 41] ∧ (k ≤ l.length) ∧ (∀ i, i < k → ¬ (s.vals.getD i 0 < (spn l i).lo ∨ (spn l i).hi < s.vals.getD i 0)) ∧ zz = l.length - k) _ ⟨_, rfl, 0, rfl, rfl, rfl, hS, (Nat.zero_le _), (fun i hi => absurd hi (Nat.not_lt_zero _)), rfl⟩ ?_
 clear hS
 rintro f w _ ⟨k, h1, h2, h5, hS, hk, hA, rfl⟩
 refine seq <| seq <| region <| sv (yMove h5) <| sv (yMove h1) <| sv (yLen rfl Tryz.underlying86) <| sv (yLss rfl rfl) <| nil <| cwQ ?_
 refine cond rfl (fun c9 => ?_) (fun c9 => ?_)
 ·
  simp only [BS, ne_eq] at c9
  have hkl : k < l.length := by omega
  obtain ⟨bx, ox, cx, hax, -, hcx, hRx, -⟩ := sl_at hsv (show s.vals[k]? = some (s.vals.getD k 0) by simp [List.getD, show k < s.vals.length by omega])
  obtain ⟨rfl, -⟩ := hRx
  obtain ⟨bk, ok, ck2, hak, -, hck, hRk, -⟩ := sl_at hl (spn_get hkl)
  obtain ⟨rfl, -⟩ := hRk
  refine skip <| cwQ <| seq <| block <| seq <| region_draw mixed (by kernel_rfl) hS <| qv (fun w hS => (fa41_1 h2)) <| qv (fun w hS => (yLdB rfl Tryz.isAgg39 (hS.at _) rfl)) <| qv (fun w hS => (yMove h5)) ?_
  refine qv (fun w hS => (yIxa rfl hax rfl Tryz.runUnderlying39 Tryz.sizeOf3 (by omega) (by omega))) <| qv (fun w hS => (yLd rfl Tryz.isAgg3 (hcx.ext hS.ext).one)) <| qv (fun w hS => (yMove h1)) <| qv (fun w hS => (yMove h5)) <| qv (fun w hS => (yIxa rfl hak rfl Tryz.runUnderlying86 Tryz.sizeOf74 (by omega) (by omega))) <| qv (fun w hS => (fa74_0 rfl)) <| qv (fun w hS => (yLd rfl Tryz.isAgg3 ((hck.ext hS.ext).at (j := 0) rfl))) <| qv (fun w hS => (yMove h1)) <| qv (fun w hS => (yMove h5)) ?_
  refine qv (fun w hS => (yIxa rfl hak rfl Tryz.runUnderlying86 Tryz.sizeOf74 (by omega) (by omega))) <| qv (fun w hS => (fa74_1 rfl)) <| qv (fun w hS => (yLd rfl Tryz.isAgg3 ((hck.ext hS.ext).at (j := 1) rfl))) <| qcall Tryz.call58 (.cons rfl (.cons rfl (.cons rfl .nil))) (fun w hS => c_inS) <| qv (fun w hS => (yNot rfl)) ?_
  clear hS; refine qnil (fun w hS => ?_)
  refine cwQ ?_
  refine cond rfl (fun c28 => ?_) (fun c28 => ?_)
  ·
   rw [inB_not] at c28
   refine seq <| region <| sv (yAsg rfl) <| nil <| cwQ ?_
   refine wp_ret (blockR (thenR (thenR (blockR (thenR ?_)))))
   exact retV (res1 rfl (congrArg Value.bool (has_no hkl (by have := outB_true.1 c28; omega)).symm)) hS.ext
  ·
   rw [inB_not] at c28
   refine skip <| cwQ <| region <| sv (yMove h5) <| sv (yAdd rfl rfl ⟨by omega, by omega⟩) <| sv (yAsg rfl) <| nil ?_
   exact ⟨_, _, rfl, ⟨k + 1, h1, h2, rfl, hS, (by omega), (fun i hi => by
    by_cases e : i = k
    ·
     subst e; have := outB_false.1 c28; omega
    ·
     exact hA i (by omega)), rfl⟩, by omega⟩
 ·
  simp only [BS, ne_eq] at c9
  have hkk : k = l.length := by omega
  rw [hkk] at hA
  refine exit <| cwQ <| seq <| region <| sv (yAsg rfl) <| nil <| cwQ <| wp_ret ?_
  exact retV (res1 rfl (congrArg Value.bool (has_yes hA).symm)) hS.ext
end Go.Proofs.YtgidbailiababaaGreatDoor

/- part Sy7 -/
namespace Go.Proofs.YtgidbailiababaaGreatDoor
open Go Bx
set_option maxHeartbeats 2000000 in
theorem c_rright {t : Sgt} {cs : List Value} {now : Int} {s : Ser} {cs2 : List Value} {w0 : World} (h : RSgt w0 cs t) (hok : SgOk t) (hnow : Bd now 0 200000) (hs : RSer w0 cs2 s) (hvl : s.vals.length = t.ticks.toNat) : CE Tryz.prog 78 #[.agg cs.toArray, .int .i64 now, .agg cs2.toArray] w0 (fun u w' => St w0 w' [rowI u 4 1 t.ctrs.length ((rightS t now s.vals).flatMap encB)]) := by
 obtain ⟨cv, gv, tv, fv, rfl, hT, hG, hw64, hf64, hk64, hC, hF, hl64, hm64, hr64, hq64⟩ := id h
 obtain ⟨ag, cg, rfl, hgcap, hgmx, hgel⟩ := id hG
 obtain ⟨ak, ck, rfl, hkcap, hkmx, hkel⟩ := id hC
 obtain ⟨ae, ce, rfl, hecap, hemx, heel⟩ := id hF
 have hs0 := hs
 obtain ⟨vv, rfl, hsf, hsv⟩ := hs
 obtain ⟨asv, csv, rfl, hscap, hsmx, -⟩ := id hsv
 have hnc := hok.nc
 have hnf := hok.nf
 refine enter Tryz.func78 rfl Tryz.ntmps78 rfl ?_
 have hS := St.start w0
 refine seq <| region ?_
 refine sbox hS rfl rfl ?_; clear hS; intro b3 w hS
 refine sbox hS rfl rfl ?_; clear hS; intro b5 w hS
 refine sv (yAsg rfl) <| nil <| cwQ <| seq <| region <| sv (yLdBA rfl Tryz.isAgg29 Tryz.sizeOf29 (hS.at _) rfl rfl) <| sv (yMove rfl) ?_
 refine scall Tryz.call85 (.cons rfl (.cons rfl .nil)) (c_rcurrent (h.ext hS.ext) hok hnow) ?_
 rintro cv9 w hM; replace hS := hS.call1 hM; clear hM
 obtain ⟨acv, ccv, rfl⟩ := row_shape (hS.row cv9)
 refine sv (yAsg rfl) <| nil <| cwQ <| seq <| region <| sv (yMove rfl) <| sv (yLen rfl Tryz.underlying39) ?_
 refine smake (bytes := 1) (zs := [.bool false]) (m := t.ctrs.length) hS rfl rfl Tryz.underlying78 ti4 rfl rfl rfl rfl rfl (by omega) (by omega) ?_; clear hS; intro b16 w hS
 replace hS := hS.toRow 1 t.ctrs.length (by simp) (by omega)
 rw [rigL_0 (now := now) (v := s.vals)] at hS
 refine sv (yAsg rfl) <| nil <| cwQ <| seq <| seq <| region <| sv (yAsg rfl) <| nil <| cwQ ?_
 refine block <| loop (fun f w zz => ∃ (k : Nat), f 1 = .int .i64 now ∧ f 3 = .pointer (some ⟨b3, 0, none⟩) ∧ f 5 = .pointer (some ⟨b5, 0, none⟩) ∧ f 8 = .slice (some ⟨b16, 0, none⟩) t.ctrs.length t.ctrs.length ∧ f 7 = .slice acv t.ctrs.length ccv ∧ f 9 = .int .i64 (k : Int) ∧ StX [] w0 w [rowI (.slice (some ⟨b16, 0, none⟩) t.ctrs.length t.ctrs.length) 4 1 t.ctrs.length ((rigL t now s.vals k false).flatMap encB), rowI (.slice acv t.ctrs.length ccv) 3 1 t.ctrs.length ((curS t now).flatMap Bx.encI), blk b5 [.int .i64 s.frm, .slice asv s.vals.length csv] 41, blk b3 [.int .i64 t.table.mean, cv, .slice ag t.gauges.length cg, .int .i64 t.wrong, .int .i64 t.frm, .int .i64 t.ticks, .slice ak t.ctrs.length ck, .slice ae t.fcs.length ce, .int .i64 t.least, .int .i64 t.most, .int .i64 t.rate, .int .i64 t.quorum] 29] ∧ (k ≤ t.ctrs.length) ∧ zz = t.ctrs.length - k) _ ⟨_, rfl, 0, rfl, rfl, rfl, rfl, rfl, rfl, hS, (Nat.zero_le _), rfl⟩ ?_
 clear hS
 rintro f w _ ⟨k, h1, h3, h5, h8, h7, h9, hS, hk, rfl⟩
 refine seq <| seq <| region <| sv (yMove h9) <| sv (yMove h7) <| sv (yLen rfl Tryz.underlying39) <| sv (yLss rfl rfl) <| nil <| cwQ ?_
 refine cond rfl (fun c20 => ?_) (fun c20 => ?_)
 ·
  simp only [BS, ne_eq] at c20
  have hkl : k < t.ctrs.length := by omega
  obtain ⟨gc, rfl, -⟩ := row_get (hS.row (.slice acv t.ctrs.length ccv)) (by omega)
  obtain ⟨bm, qm, am, cm, hmm⟩ := mem_if hF (curOf t now k)
  have hbd : -1 ≤ curOf t now k ∧ curOf t now k < t.fcs.length := curK_bd t now k t.fcs.length
  refine skip <| cwQ <| seq <| block <| seq <| region <| sv (yAsg rfl) <| nil <| cwQ ?_
  refine block <| loop (fun f w zz => ∃ (m : Nat) (can : Bool), f 1 = .int .i64 now ∧ f 3 = .pointer (some ⟨b3, 0, none⟩) ∧ f 5 = .pointer (some ⟨b5, 0, none⟩) ∧ f 8 = .slice (some ⟨b16, 0, none⟩) t.ctrs.length t.ctrs.length ∧ f 7 = .slice (some ⟨gc, 0, none⟩) t.ctrs.length ccv ∧ f 9 = .int .i64 (k : Int) ∧ f 10 = .int .i64 (m : Int) ∧ StX [] w0 w [rowI (.slice (some ⟨b16, 0, none⟩) t.ctrs.length t.ctrs.length) 4 1 t.ctrs.length ((rigL t now s.vals k can).flatMap encB), rowI (.slice (some ⟨gc, 0, none⟩) t.ctrs.length ccv) 3 1 t.ctrs.length ((curS t now).flatMap Bx.encI), blk b5 [.int .i64 s.frm, .slice asv s.vals.length csv] 41, blk b3 [.int .i64 t.table.mean, cv, .slice ag t.gauges.length cg, .int .i64 t.wrong, .int .i64 t.frm, .int .i64 t.ticks, .slice ak t.ctrs.length ck, .slice ae t.fcs.length ce, .int .i64 t.least, .int .i64 t.most, .int .i64 t.rate, .int .i64 t.quorum] 29] ∧ ((0 ≤ (curOf t now k) → m ≤ (fct t.fcs (curOf t now k).toNat).members.length) ∧ (¬ 0 ≤ (curOf t now k) → m = 0)) ∧ (can = (List.range m).any (fun q => hasS (tubeS t (fct t.fcs (curOf t now k).toNat) (mem (fct t.fcs (curOf t now k).toNat) q)) s.vals)) ∧ zz = (fct t.fcs (curOf t now k).toNat).members.length - m) _ ⟨_, rfl, 0, false, h1, h3, h5, h8, h7, h9, rfl, hS, (⟨fun _ => Nat.zero_le _, fun _ => rfl⟩), (rfl), rfl⟩ ?_
  clear hS
  rintro f w _ ⟨m, can, h1, h3, h5, h8, h7, h9, h10, hS, hm, hcan, rfl⟩
  refine seq <| seq <| region_draw mixed (by kernel_rfl) hS <| qv (fun w hS => (yMove h7)) <| qv (fun w hS => (yMove h9)) <| qv (fun w hS => (yIxa rfl rfl rfl Tryz.runUnderlying39 Tryz.sizeOf3 (by omega) (by omega))) ?_
  refine qv (fun w hS => (yLd rfl Tryz.isAgg3 (show w.cell? ⟨gc, 0 + (k : Int).toNat * 1, none⟩ = _ by rw [show 0 + (k : Int).toNat * 1 = k * 1 by omega]; exact (flat_cells0 (enc := Bx.encI) Bx.encI_len (row_at (hS.row (.slice (some ⟨gc, 0, none⟩) t.ctrs.length ccv)) rfl (by omega)) (curS_get t now hkl)).one))) ?_
  refine qv (fun w hS => (yGeq rfl rfl)) <| qv (fun w hS => (yMove rfl)) ?_
  refine qg rfl rfl rfl (fun g w hS => (yMove h10)) (fun v29 g29 => ?_)
  refine qg rfl rfl rfl (fun g w hS => (fa29_6 h3)) (fun v30 g30 => ?_)
  refine qg rfl rfl rfl (fun g w hS => (yLdB (g30.1 g) Tryz.isAgg27 (hS.at _) rfl)) (fun v31 g31 => ?_)
  refine qg rfl rfl rfl (fun g w hS => (yMove h7)) (fun v32 g32 => ?_)
  refine qg rfl rfl rfl (fun g w hS => (yMove h9)) (fun v33 g33 => ?_)
  refine qg rfl rfl rfl (fun g w hS => (yIxa (g32.1 g) rfl (g33.1 g) Tryz.runUnderlying39 Tryz.sizeOf3 (by omega) (by omega))) (fun v34 g34 => ?_)
  refine qg rfl rfl rfl (fun g w hS => (yLd (g34.1 g) Tryz.isAgg3 (show w.cell? ⟨gc, 0 + (k : Int).toNat * 1, none⟩ = _ by rw [show 0 + (k : Int).toNat * 1 = k * 1 by omega]; exact (flat_cells0 (enc := Bx.encI) Bx.encI_len (row_at (hS.row (.slice (some ⟨gc, 0, none⟩) t.ctrs.length ccv)) rfl (by omega)) (curS_get t now hkl)).one))) (fun v35 g35 => ?_)
  refine qg rfl rfl rfl (fun g w hS => (yIxa (g31.1 g) (hmm (by have := of_decide_eq_true g; omega)).1 (g35.1 g) Tryz.runUnderlying27 Tryz.sizeOf61 (by have := of_decide_eq_true g; omega) (by have := of_decide_eq_true g; omega))) (fun v36 g36 => ?_)
  refine qg rfl rfl rfl (fun g w hS => (fa61_3 (g36.1 g))) (fun v37 g37 => ?_)
  refine qg rfl rfl rfl (fun g w hS => (yLd (g37.1 g) Tryz.isAgg59 ((hmm (by have := of_decide_eq_true g; omega)).2.1 |> hS.ext.cell))) (fun v38 g38 => ?_)
  refine qg rfl rfl rfl (fun g w hS => (yLen (g38.1 g) Tryz.underlying59)) (fun v39 g39 => ?_)
  refine qg rfl rfl rfl (fun g w hS => (yLss (g29.1 g) (g39.1 g))) (fun v40 g40 => ?_)
  refine qv (fun w hS => (yAnd rfl (fun hB => (g40.1 hB)) rfl)) ?_
  clear hS; refine qnil (fun w hS => ?_)
  refine cwQ ?_
  refine cond rfl (fun c41 => ?_) (fun c41 => ?_)
  ·
   simp only [BS, ne_eq] at c41
   have hge : 0 ≤ (curOf t now k) := c41.1
   have hml : m < (fct t.fcs (curOf t now k).toNat).members.length := by omega
   obtain ⟨hfl, hfo⟩ := cur_fct hok hge
   have hnm := hfo.nm
   have hcn : (curOf t now k) = (((curOf t now k).toNat : Nat) : Int) := by omega
   refine skip <| cwQ <| seq <| block ?_
   rcases Bool.eq_false_or_eq_true can with hcc | hcc
   ·
    refine region_mix (fun w => StX [] w0 w [rowI (.slice (some ⟨b16, 0, none⟩) t.ctrs.length t.ctrs.length) 4 1 t.ctrs.length ((rigL t now s.vals k can).flatMap encB), rowI (.slice (some ⟨gc, 0, none⟩) t.ctrs.length ccv) 3 1 t.ctrs.length ((curS t now).flatMap Bx.encI), blk b5 [.int .i64 s.frm, .slice asv s.vals.length csv] 41, blk b3 [.int .i64 t.table.mean, cv, .slice ag t.gauges.length cg, .int .i64 t.wrong, .int .i64 t.frm, .int .i64 t.ticks, .slice ak t.ctrs.length ck, .slice ae t.fcs.length ce, .int .i64 t.least, .int .i64 t.most, .int .i64 t.rate, .int .i64 t.quorum] 29]) 18 mixed hS ?_
    clear hS; intro w hS
    refine f_step 0 (by kernel_rfl) rfl (fun c a a' w h => by obtain ⟨_, v, hv, _⟩ := h; cases hv) (by refine hS.sub ?_; repeat first | exact List.Sublist.refl _ | exact List.nil_sublist _ | apply List.Sublist.cons_cons | apply List.Sublist.cons) (fun w hS => (yMove h8)) ?_
    refine f_step 1 (by kernel_rfl) rfl (fun c a a' w h => by obtain ⟨_, v, hv, _⟩ := h; cases hv) (by refine hS.sub ?_; repeat first | exact List.Sublist.refl _ | exact List.nil_sublist _ | apply List.Sublist.cons_cons | apply List.Sublist.cons) (fun w hS => (yMove h9)) ?_
    refine f_step 2 (by kernel_rfl) rfl (fun c a a' w h => by obtain ⟨_, v, hv, _⟩ := h; cases hv) (by refine hS.sub ?_; repeat first | exact List.Sublist.refl _ | exact List.nil_sublist _ | apply List.Sublist.cons_cons | apply List.Sublist.cons) (fun w hS => (yMove h8)) ?_
    refine f_step 3 (by kernel_rfl) rfl (fun c a a' w h => by obtain ⟨_, v, hv, _⟩ := h; cases hv) (by refine hS.sub ?_; repeat first | exact List.Sublist.refl _ | exact List.nil_sublist _ | apply List.Sublist.cons_cons | apply List.Sublist.cons) (fun w hS => (yMove h9)) ?_
    refine f_step 4 (by kernel_rfl) rfl (fun c a a' w h => by obtain ⟨_, v, hv, _⟩ := h; cases hv) (by refine hS.sub ?_; repeat first | exact List.Sublist.refl _ | exact List.nil_sublist _ | apply List.Sublist.cons_cons | apply List.Sublist.cons) (fun w hS => (Y.to (yIxa rfl rfl rfl Tryz.runUnderlying78 Tryz.sizeOf4 (by omega) (by omega)) (congrArg (fun q => Value.pointer (some ⟨b16, q, none⟩)) (show 0 + (k : Int).toNat * 1 = k * 1 by omega)))) ?_
    refine f_step 5 (by kernel_rfl) rfl (fun c a a' w h => by obtain ⟨_, v, hv, _⟩ := h; cases hv) (by refine hS.sub ?_; repeat first | exact List.Sublist.refl _ | exact List.nil_sublist _ | apply List.Sublist.cons_cons | apply List.Sublist.cons) (fun w hS => (yLd rfl Tryz.isAgg4 (flat_cells0 (enc := encB) encB_len (row_at (hS.row (.slice (some ⟨b16, 0, none⟩) t.ctrs.length t.ctrs.length)) rfl (by omega)) (rigL_at hkl)).one)) ?_
    refine f_step 6 (by kernel_rfl) rfl (fun c a a' w h => by obtain ⟨_, v, hv, _⟩ := h; cases hv) (by refine hS.sub ?_; repeat first | exact List.Sublist.refl _ | exact List.nil_sublist _ | apply List.Sublist.cons_cons | apply List.Sublist.cons) (fun w hS => (yMove rfl)) ?_
    refine f_skip 7 (by kernel_rfl) rfl rfl rfl (fun c a a' w h => by obtain ⟨_, v, hv, _⟩ := h; cases hv) (by refine hS.sub ?_; repeat first | exact List.Sublist.refl _ | exact List.nil_sublist _ | apply List.Sublist.cons_cons | apply List.Sublist.cons) (u := .bool can) rfl (by rw [hcc]; simp) ?_
    refine f_skip 8 (by kernel_rfl) rfl rfl rfl (fun c a a' w h => by obtain ⟨_, v, hv, _⟩ := h; cases hv) (by refine hS.sub ?_; repeat first | exact List.Sublist.refl _ | exact List.nil_sublist _ | apply List.Sublist.cons_cons | apply List.Sublist.cons) (u := .bool can) rfl (by rw [hcc]; simp) ?_
    refine f_skip 9 (by kernel_rfl) rfl rfl rfl (fun c a a' w h => by obtain ⟨_, v, hv, _⟩ := h; cases hv) (by refine hS.sub ?_; repeat first | exact List.Sublist.refl _ | exact List.nil_sublist _ | apply List.Sublist.cons_cons | apply List.Sublist.cons) (u := .bool can) rfl (by rw [hcc]; simp) ?_
    refine f_skip 10 (by kernel_rfl) rfl rfl rfl (fun c a a' w h => by obtain ⟨_, v, hv, _⟩ := h; cases hv) (by refine hS.sub ?_; repeat first | exact List.Sublist.refl _ | exact List.nil_sublist _ | apply List.Sublist.cons_cons | apply List.Sublist.cons) (u := .bool can) rfl (by rw [hcc]; simp) ?_
    refine f_skip 11 (by kernel_rfl) rfl rfl rfl (fun c a a' w h => by obtain ⟨_, v, hv, _⟩ := h; cases hv) (by refine hS.sub ?_; repeat first | exact List.Sublist.refl _ | exact List.nil_sublist _ | apply List.Sublist.cons_cons | apply List.Sublist.cons) (u := .bool can) rfl (by rw [hcc]; simp) ?_
    refine f_skip 12 (by kernel_rfl) rfl rfl rfl (fun c a a' w h => by obtain ⟨_, v, hv, _⟩ := h; cases hv) (by refine hS.sub ?_; repeat first | exact List.Sublist.refl _ | exact List.nil_sublist _ | apply List.Sublist.cons_cons | apply List.Sublist.cons) (u := .bool can) rfl (by rw [hcc]; simp) ?_
    refine f_skip 13 (by kernel_rfl) rfl rfl rfl (fun c a a' w h => by obtain ⟨_, v, hv, _⟩ := h; cases hv) (by refine hS.sub ?_; repeat first | exact List.Sublist.refl _ | exact List.nil_sublist _ | apply List.Sublist.cons_cons | apply List.Sublist.cons) (u := .bool can) rfl (by rw [hcc]; simp) ?_
    refine f_skip 14 (by kernel_rfl) rfl rfl rfl (fun c a a' w h => by obtain ⟨_, v, hv, _⟩ := h; cases hv) (by refine hS.sub ?_; repeat first | exact List.Sublist.refl _ | exact List.nil_sublist _ | apply List.Sublist.cons_cons | apply List.Sublist.cons) (u := .bool can) rfl (by rw [hcc]; simp) ?_
    refine f_skip 15 (by kernel_rfl) rfl rfl rfl (fun c a a' w h => by obtain ⟨_, v, hv, _⟩ := h; cases hv) (by refine hS.sub ?_; repeat first | exact List.Sublist.refl _ | exact List.nil_sublist _ | apply List.Sublist.cons_cons | apply List.Sublist.cons) (u := .bool can) rfl (by rw [hcc]; simp) ?_
    refine f_step 16 (by kernel_rfl) rfl (fun c a a' w h => by obtain ⟨_, v, hv, _⟩ := h; cases hv) (by refine hS.sub ?_; repeat first | exact List.Sublist.refl _ | exact List.nil_sublist _ | apply List.Sublist.cons_cons | apply List.Sublist.cons) (fun w hS => (yPick (v := .bool can) (B := can) rfl (fun _ => by rw [hcc]; rfl) (fun h => absurd (hcc.symm.trans h) (by decide)))) ?_
    refine f_step 17 (by kernel_rfl) rfl (fun c a a' w h => by obtain ⟨_, v, hv, _⟩ := h; cases hv) (by refine hS.sub ?_; repeat first | exact List.Sublist.refl _ | exact List.nil_sublist _ | apply List.Sublist.cons_cons | apply List.Sublist.cons) (fun w hS => (Y.to (yIxa rfl rfl rfl Tryz.runUnderlying78 Tryz.sizeOf4 (by omega) (by omega)) (congrArg (fun q => Value.pointer (some ⟨b16, q, none⟩)) (show 0 + (k : Int).toNat * 1 = k * 1 by omega)))) ?_
    refine awQ <| a1Q 18 (by kernel_rfl) rfl ?_
    refine srst (m := t.ctrs.length) (cap := t.ctrs.length) (sz := 1) (vs := [.bool _]) hS rfl rfl Tryz.sizeOf4 rfl rfl (by omega) rfl ?_; clear hS; intro w hS
    rw [rigL_store hkl] at hS
    refine nil ?_
    refine ⟨fun h => absurd h (by decide), ?_⟩
    refine awQ <| a_end (by kernel_rfl) <| cwQ <| region <| sv (yMove h10) <| sv (yAdd rfl rfl ⟨by omega, by omega⟩) <| sv (yAsg rfl) <| nil ?_
    exact ⟨_, _, rfl, ⟨m + 1, can, h1, h3, h5, h8, h7, h9, rfl, (by refine hS.sub ?_; repeat first | exact List.Sublist.refl _ | exact List.nil_sublist _ | apply List.Sublist.cons_cons | apply List.Sublist.cons), (⟨fun _ => by omega, fun hh => absurd hge hh⟩), (by rw [any_succ, ← hcan, hcc]; rfl), rfl⟩, by omega⟩
   ·
    refine region_mix (fun w => StX [] w0 w [rowI (.slice (some ⟨b16, 0, none⟩) t.ctrs.length t.ctrs.length) 4 1 t.ctrs.length ((rigL t now s.vals k can).flatMap encB), rowI (.slice (some ⟨gc, 0, none⟩) t.ctrs.length ccv) 3 1 t.ctrs.length ((curS t now).flatMap Bx.encI), blk b5 [.int .i64 s.frm, .slice asv s.vals.length csv] 41, blk b3 [.int .i64 t.table.mean, cv, .slice ag t.gauges.length cg, .int .i64 t.wrong, .int .i64 t.frm, .int .i64 t.ticks, .slice ak t.ctrs.length ck, .slice ae t.fcs.length ce, .int .i64 t.least, .int .i64 t.most, .int .i64 t.rate, .int .i64 t.quorum] 29]) 18 mixed hS ?_
    clear hS; intro w hS
    refine f_step 0 (by kernel_rfl) rfl (fun c a a' w h => by obtain ⟨_, v, hv, _⟩ := h; cases hv) (by refine hS.sub ?_; repeat first | exact List.Sublist.refl _ | exact List.nil_sublist _ | apply List.Sublist.cons_cons | apply List.Sublist.cons) (fun w hS => (yMove h8)) ?_
    refine f_step 1 (by kernel_rfl) rfl (fun c a a' w h => by obtain ⟨_, v, hv, _⟩ := h; cases hv) (by refine hS.sub ?_; repeat first | exact List.Sublist.refl _ | exact List.nil_sublist _ | apply List.Sublist.cons_cons | apply List.Sublist.cons) (fun w hS => (yMove h9)) ?_
    refine f_step 2 (by kernel_rfl) rfl (fun c a a' w h => by obtain ⟨_, v, hv, _⟩ := h; cases hv) (by refine hS.sub ?_; repeat first | exact List.Sublist.refl _ | exact List.nil_sublist _ | apply List.Sublist.cons_cons | apply List.Sublist.cons) (fun w hS => (yMove h8)) ?_
    refine f_step 3 (by kernel_rfl) rfl (fun c a a' w h => by obtain ⟨_, v, hv, _⟩ := h; cases hv) (by refine hS.sub ?_; repeat first | exact List.Sublist.refl _ | exact List.nil_sublist _ | apply List.Sublist.cons_cons | apply List.Sublist.cons) (fun w hS => (yMove h9)) ?_
    refine f_step 4 (by kernel_rfl) rfl (fun c a a' w h => by obtain ⟨_, v, hv, _⟩ := h; cases hv) (by refine hS.sub ?_; repeat first | exact List.Sublist.refl _ | exact List.nil_sublist _ | apply List.Sublist.cons_cons | apply List.Sublist.cons) (fun w hS => (Y.to (yIxa rfl rfl rfl Tryz.runUnderlying78 Tryz.sizeOf4 (by omega) (by omega)) (congrArg (fun q => Value.pointer (some ⟨b16, q, none⟩)) (show 0 + (k : Int).toNat * 1 = k * 1 by omega)))) ?_
    refine f_step 5 (by kernel_rfl) rfl (fun c a a' w h => by obtain ⟨_, v, hv, _⟩ := h; cases hv) (by refine hS.sub ?_; repeat first | exact List.Sublist.refl _ | exact List.nil_sublist _ | apply List.Sublist.cons_cons | apply List.Sublist.cons) (fun w hS => (yLd rfl Tryz.isAgg4 (flat_cells0 (enc := encB) encB_len (row_at (hS.row (.slice (some ⟨b16, 0, none⟩) t.ctrs.length t.ctrs.length)) rfl (by omega)) (rigL_at hkl)).one)) ?_
    refine f_step 6 (by kernel_rfl) rfl (fun c a a' w h => by obtain ⟨_, v, hv, _⟩ := h; cases hv) (by refine hS.sub ?_; repeat first | exact List.Sublist.refl _ | exact List.nil_sublist _ | apply List.Sublist.cons_cons | apply List.Sublist.cons) (fun w hS => (yMove rfl)) ?_
    refine f_go 7 (by kernel_rfl) rfl rfl rfl (fun c a a' w h => by obtain ⟨_, v, hv, _⟩ := h; cases hv) (by refine hS.sub ?_; repeat first | exact List.Sublist.refl _ | exact List.nil_sublist _ | apply List.Sublist.cons_cons | apply List.Sublist.cons) (congrArg Value.bool hcc) (fun w hS => (yLdBA h5 Tryz.isAgg41 Tryz.sizeOf41 (hS.at _) rfl rfl)) ?_
    refine f_go 8 (by kernel_rfl) rfl rfl rfl (fun c a a' w h => by obtain ⟨_, v, hv, _⟩ := h; cases hv) (by refine hS.sub ?_; repeat first | exact List.Sublist.refl _ | exact List.nil_sublist _ | apply List.Sublist.cons_cons | apply List.Sublist.cons) (congrArg Value.bool hcc) (fun w hS => (yLdBA h3 Tryz.isAgg29 Tryz.sizeOf29 (hS.at _) rfl rfl)) ?_
    refine f_go 9 (by kernel_rfl) rfl rfl rfl (fun c a a' w h => by obtain ⟨_, v, hv, _⟩ := h; cases hv) (by refine hS.sub ?_; repeat first | exact List.Sublist.refl _ | exact List.nil_sublist _ | apply List.Sublist.cons_cons | apply List.Sublist.cons) (congrArg Value.bool hcc) (fun w hS => (yMove h7)) ?_
    refine f_go 10 (by kernel_rfl) rfl rfl rfl (fun c a a' w h => by obtain ⟨_, v, hv, _⟩ := h; cases hv) (by refine hS.sub ?_; repeat first | exact List.Sublist.refl _ | exact List.nil_sublist _ | apply List.Sublist.cons_cons | apply List.Sublist.cons) (congrArg Value.bool hcc) (fun w hS => (yMove h9)) ?_
    refine f_go 11 (by kernel_rfl) rfl rfl rfl (fun c a a' w h => by obtain ⟨_, v, hv, _⟩ := h; cases hv) (by refine hS.sub ?_; repeat first | exact List.Sublist.refl _ | exact List.nil_sublist _ | apply List.Sublist.cons_cons | apply List.Sublist.cons) (congrArg Value.bool hcc) (fun w hS => (yIxa rfl rfl rfl Tryz.runUnderlying39 Tryz.sizeOf3 (by omega) (by omega))) ?_
    refine f_go 12 (by kernel_rfl) rfl rfl rfl (fun c a a' w h => by obtain ⟨_, v, hv, _⟩ := h; cases hv) (by refine hS.sub ?_; repeat first | exact List.Sublist.refl _ | exact List.nil_sublist _ | apply List.Sublist.cons_cons | apply List.Sublist.cons) (congrArg Value.bool hcc) (fun w hS => (yLd rfl Tryz.isAgg3 (show w.cell? ⟨gc, 0 + (k : Int).toNat * 1, none⟩ = some (Value.int .i64 (((curOf t now k).toNat : Nat) : Int)) by rw [← hcn, show 0 + (k : Int).toNat * 1 = k * 1 by omega]; exact (flat_cells0 (enc := Bx.encI) Bx.encI_len (row_at (hS.row (.slice (some ⟨gc, 0, none⟩) t.ctrs.length ccv)) rfl (by omega)) (curS_get t now hkl)).one))) ?_
    refine f_go 13 (by kernel_rfl) rfl rfl rfl (fun c a a' w h => by obtain ⟨_, v, hv, _⟩ := h; cases hv) (by refine hS.sub ?_; repeat first | exact List.Sublist.refl _ | exact List.nil_sublist _ | apply List.Sublist.cons_cons | apply List.Sublist.cons) (congrArg Value.bool hcc) (fun w hS => (yMove h10)) ?_
    refine awQ <| a1Q 14 (by kernel_rfl) rfl <| ungo rfl rfl (congrArg Value.bool hcc) ?_
    refine scall Tryz.call87 (.cons rfl (.cons rfl (.cons rfl .nil))) (c_rtube (h.ext hS.ext) hok hfl hml) ?_
    rintro tv w hM; replace hS := hS.call1 hM; clear hM
    have htl := tubeS_lbd hok hfo hml
    refine nil ?_
    refine ⟨fun _ => (by refine hS.sub ?_; repeat first | exact List.Sublist.refl _ | exact List.nil_sublist _ | apply List.Sublist.cons_cons | apply List.Sublist.cons), ?_⟩
    refine awQ <| awQ <| a1Q 15 (by kernel_rfl) rfl <| ungo rfl rfl (congrArg Value.bool hcc) ?_
    refine scall Tryz.call139 (.cons rfl (.cons rfl .nil)) (c_rwithin (RSer.stays _ _ _ _ hS.ext hs0) (sl_spans (hS.row tv) (tubeS_len ..) (lbd_i64 htl)) (hvl.trans (tubeS_len ..).symm)) ?_
    rintro _ w ⟨rfl, hE⟩; replace hS := hS.step hE; clear hE
    refine nil ?_
    refine ⟨fun _ => (by refine hS.sub ?_; repeat first | exact List.Sublist.refl _ | exact List.nil_sublist _ | apply List.Sublist.cons_cons | apply List.Sublist.cons), ?_⟩
    refine awQ ?_
    refine f_step 16 (by kernel_rfl) rfl (fun c a a' w h => by obtain ⟨_, v, hv, _⟩ := h; cases hv) (by refine hS.sub ?_; repeat first | exact List.Sublist.refl _ | exact List.nil_sublist _ | apply List.Sublist.cons_cons | apply List.Sublist.cons) (fun w hS => (yPick (v := .bool (hasS (tubeS t (fct t.fcs (curOf t now k).toNat) (mem (fct t.fcs (curOf t now k).toNat) m)) s.vals)) (B := can) rfl (fun h => absurd (hcc.symm.trans h) (by decide)) (fun _ => rfl))) ?_
    refine f_step 17 (by kernel_rfl) rfl (fun c a a' w h => by obtain ⟨_, v, hv, _⟩ := h; cases hv) (by refine hS.sub ?_; repeat first | exact List.Sublist.refl _ | exact List.nil_sublist _ | apply List.Sublist.cons_cons | apply List.Sublist.cons) (fun w hS => (Y.to (yIxa rfl rfl rfl Tryz.runUnderlying78 Tryz.sizeOf4 (by omega) (by omega)) (congrArg (fun q => Value.pointer (some ⟨b16, q, none⟩)) (show 0 + (k : Int).toNat * 1 = k * 1 by omega)))) ?_
    refine awQ <| a1Q 18 (by kernel_rfl) rfl ?_
    refine srst (m := t.ctrs.length) (cap := t.ctrs.length) (sz := 1) (vs := [.bool _]) hS rfl rfl Tryz.sizeOf4 rfl rfl (by omega) rfl ?_; clear hS; intro w hS
    rw [rigL_store hkl] at hS
    refine nil ?_
    refine ⟨fun h => absurd h (by decide), ?_⟩
    refine awQ <| a_end (by kernel_rfl) <| cwQ <| region <| sv (yMove h10) <| sv (yAdd rfl rfl ⟨by omega, by omega⟩) <| sv (yAsg rfl) <| nil ?_
    exact ⟨_, _, rfl, ⟨m + 1, _, h1, h3, h5, h8, h7, h9, rfl, (by refine hS.sub ?_; repeat first | exact List.Sublist.refl _ | exact List.nil_sublist _ | apply List.Sublist.cons_cons | apply List.Sublist.cons), (⟨fun _ => by omega, fun hh => absurd hge hh⟩), (by rw [any_succ, ← hcan, hcc]; rfl), rfl⟩, by omega⟩
  ·
   simp only [BS, ne_eq] at c41
   have hfin : rightAt t now s.vals k = can := by
    by_cases hge : 0 ≤ (curOf t now k)
    ·
     rw [right_yes hge, hcan, show m = (fct t.fcs (curOf t now k).toNat).members.length by have := hm.1 hge; omega]
    ·
     rw [right_no hge, hcan, hm.2 hge]; rfl
   refine exit <| cwQ <| region <| sv (yMove h9) <| sv (yAdd rfl rfl ⟨by omega, by omega⟩) <| sv (yAsg rfl) <| nil ?_
   exact ⟨_, _, rfl, ⟨k + 1, h1, h3, h5, h8, h7, rfl, (by rw [← rigL_next hfin]; exact hS), (by omega), rfl⟩, by omega⟩
 ·
  simp only [BS, ne_eq] at c20
  obtain rfl : k = t.ctrs.length := by omega
  refine exit <| cwQ <| seq <| region <| sv (yMove h8) <| sv (yAsg rfl) <| nil <| cwQ <| wp_ret ?_
  refine retQ (res1 rfl rfl) ?_
  rw [rigL_all] at hS
  exact hS.sub (.cons_cons _ (List.nil_sublist _))
end Go.Proofs.YtgidbailiababaaGreatDoor

/- part Sy8 -/
namespace Go.Proofs.YtgidbailiababaaGreatDoor
open Go Bx
set_option maxHeartbeats 1000000 in
theorem c_rneeded {t : Sgt} {cs : List Value} {now : Int} {w0 : World} (h : RSgt w0 cs t) (hok : SgOk t) (hnow : Bd now 0 200000) : CV Tryz.prog 123 #[.agg cs.toArray, .int .i64 now] w0 (.int .i64 (needS t now)) := by
 obtain ⟨cv, gv, tv, fv, rfl, hT, hG, hw64, hf64, hk64, hC, hF, hl64, hm64, hr64, hq64⟩ := id h
 obtain ⟨ag, cg, rfl, hgcap, hgmx, hgel⟩ := id hG
 obtain ⟨ak, ck, rfl, hkcap, hkmx, hkel⟩ := id hC
 obtain ⟨ae, ce, rfl, hecap, hemx, heel⟩ := id hF
 have hnc := hok.nc
 have hn4 := hok.nums4
 refine enter Tryz.func123 rfl Tryz.ntmps123 rfl ?_
 have hS := St.start w0
 refine seq <| region ?_
 refine sbox hS rfl rfl ?_; clear hS; intro b2 w hS
 refine sv (yAsg rfl) <| nil <| cwQ <| seq <| region <| sv (yAsg rfl) <| nil <| cwQ <| seq ?_
 refine region <| sv (yLdBA rfl Tryz.isAgg29 Tryz.sizeOf29 (hS.at _) rfl rfl) <| sv (yMove rfl) ?_
 refine scall Tryz.call85 (.cons rfl (.cons rfl .nil)) (c_rcurrent (h.ext hS.ext) hok hnow) ?_
 rintro cv9 w hM; replace hS := hS.call1 hM; clear hM
 obtain ⟨acv, ccv, rfl⟩ := row_shape (hS.row cv9)
 refine sv (yAsg rfl) <| nil <| cwQ <| seq <| seq <| region <| sv (yAsg rfl) <| nil <| cwQ ?_
 refine block <| loop (fun f w zz => ∃ (k : Nat), f 2 = .pointer (some ⟨b2, 0, none⟩) ∧ f 5 = .int .i64 ((cntR (fun i => decide (0 ≤ curOf t now i)) 0 k : Nat) : Int) ∧ f 6 = .slice acv t.ctrs.length ccv ∧ f 7 = .int .i64 (k : Int) ∧ StX [] w0 w [rowI (.slice acv t.ctrs.length ccv) 3 1 t.ctrs.length ((curS t now).flatMap Bx.encI), blk b2 [.int .i64 t.table.mean, cv, .slice ag t.gauges.length cg, .int .i64 t.wrong, .int .i64 t.frm, .int .i64 t.ticks, .slice ak t.ctrs.length ck, .slice ae t.fcs.length ce, .int .i64 t.least, .int .i64 t.most, .int .i64 t.rate, .int .i64 t.quorum] 29] ∧ (k ≤ t.ctrs.length) ∧ zz = t.ctrs.length - k) _ ⟨_, rfl, 0, rfl, rfl, rfl, rfl, hS, (Nat.zero_le _), rfl⟩ ?_
 clear hS
 rintro f w _ ⟨k, h2, h5, h6, h7, hS, hk, rfl⟩
 refine seq <| seq <| region <| sv (yMove h7) <| sv (yMove h6) <| sv (yLen rfl Tryz.underlying39) <| sv (yLss rfl rfl) <| nil <| cwQ ?_
 refine cond rfl (fun c14 => ?_) (fun c14 => ?_)
 ·
  simp only [BS, ne_eq] at c14
  have hkl : k < t.ctrs.length := by omega
  obtain ⟨gc, rfl, -⟩ := row_get (hS.row (.slice acv t.ctrs.length ccv)) (by omega)
  have hca := cntR_bd (fun i => decide (0 ≤ curOf t now i)) k 0
  refine skip <| cwQ <| seq <| block <| seq <| region <| sv (yMove h6) <| sv (yMove h7) <| sv (yIxa rfl rfl rfl Tryz.runUnderlying39 Tryz.sizeOf3 (by omega) (by omega)) ?_
  refine sv (yLd rfl Tryz.isAgg3 (show w.cell? ⟨gc, 0 + (k : Int).toNat * 1, none⟩ = _ by rw [show 0 + (k : Int).toNat * 1 = k * 1 by omega]; exact (flat_cells0 (enc := Bx.encI) Bx.encI_len (row_at (hS.row (.slice (some ⟨gc, 0, none⟩) t.ctrs.length ccv)) rfl (by omega)) (curS_get t now hkl)).one)) ?_
  refine sv (yGeq rfl rfl) <| nil <| cwQ ?_
  refine cond rfl (fun c21 => ?_) (fun c21 => ?_)
  ·
   simp only [BS, ne_eq] at c21
   refine region <| sv (yMove h5) <| sv (yAdd rfl rfl ⟨by omega, by omega⟩) <| sv (yAsg rfl) <| nil <| cwQ <| region <| sv (yMove h7) <| sv (yAdd rfl rfl ⟨by omega, by omega⟩) ?_
   refine sv (yAsg rfl) <| nil ?_
   exact ⟨_, _, rfl, ⟨k + 1, h2, (rfl.trans (congrArg (Value.int .i64) (cnt_yes (p := (fun i => decide (0 ≤ curOf t now i))) (decide_eq_true (by omega))))), h6, rfl, hS, (by omega), rfl⟩, by omega⟩
  ·
   simp only [BS, ne_eq] at c21
   refine skip <| cwQ <| region <| sv (yMove h7) <| sv (yAdd rfl rfl ⟨by omega, by omega⟩) <| sv (yAsg rfl) <| nil ?_
   exact ⟨_, _, rfl, ⟨k + 1, h2, (h5.trans (congrArg (Value.int .i64) (cnt_no (p := (fun i => decide (0 ≤ curOf t now i))) (decide_eq_false (by omega))))), h6, rfl, hS, (by omega), rfl⟩, by omega⟩
 ·
  simp only [BS, ne_eq] at c14
  obtain rfl : k = t.ctrs.length := by omega
  have hca := cntR_bd (fun i => decide (0 ≤ curOf t now i)) t.ctrs.length 0
  refine exit <| cwQ <| seq <| region <| sv (yMove h5) <| sv (fa29_10 h2) <| sv (yLdB rfl Tryz.isAgg3 (hS.at _) rfl) <| sv (yMin rfl rfl) <| sv (yAsg rfl) ?_
  refine nil <| cwQ <| wp_ret ?_
  exact retV (res1 rfl (congrArg (Value.int .i64) need_cnt)) hS.ext
set_option maxHeartbeats 2000000 in
theorem c_ris {t : Sgt} {cs : List Value} {now : Int} {s : Ser} {cs2 : List Value} {w0 : World} (h : RSgt w0 cs t) (hok : SgOk t) (hnow : Bd now 0 200000) (hs : RSer w0 cs2 s) (hvl : s.vals.length = t.ticks.toNat) (hvb : ∀ v ∈ s.vals, Bd v (-20000) 20000) : CV Tryz.prog 79 #[.agg cs.toArray, .int .i64 now, .agg cs2.toArray] w0 (.bool (isS t now s.vals)) := by
 obtain ⟨cv, gv, tv, fv, rfl, hT, hG, hw64, hf64, hk64, hC, hF, hl64, hm64, hr64, hq64⟩ := id h
 obtain ⟨ag, cg, rfl, hgcap, hgmx, hgel⟩ := id hG
 obtain ⟨ak, ck, rfl, hkcap, hkmx, hkel⟩ := id hC
 obtain ⟨ae, ce, rfl, hecap, hemx, heel⟩ := id hF
 have hs0 := hs
 obtain ⟨vv, rfl, hsf, hsv⟩ := hs
 obtain ⟨asv, csv, rfl, hscap, hsmx, -⟩ := id hsv
 have hnc := hok.nc
 have htk := hok.tk
 have hn4 := hok.nums4
 have hs5 : ∀ {i : Nat}, i < s.vals.length → Bd (s.vals.getD i 0) (-20000) 20000 := fun hi => getD_bd hvb hi
 refine enter Tryz.func79 rfl Tryz.ntmps79 rfl ?_
 have hS := St.start w0
 refine seq <| region ?_
 refine sbox hS rfl rfl ?_; clear hS; intro b3 w hS
 refine sbox hS rfl rfl ?_; clear hS; intro b5 w hS
 refine sv (yAsg rfl) <| nil <| cwQ <| seq <| seq <| region_mix (fun w => StX [] w0 w [blk b5 [.int .i64 s.frm, .slice asv s.vals.length csv] 41, blk b3 [.int .i64 t.table.mean, cv, .slice ag t.gauges.length cg, .int .i64 t.wrong, .int .i64 t.frm, .int .i64 t.ticks, .slice ak t.ctrs.length ck, .slice ae t.fcs.length ce, .int .i64 t.least, .int .i64 t.most, .int .i64 t.rate, .int .i64 t.quorum] 29]) 6 mixed hS ?_
 clear hS; intro w hS
 refine f_step 0 (by kernel_rfl) rfl (fun c a a' w h => by obtain ⟨_, v, hv, _⟩ := h; cases hv) (by refine hS.sub ?_; repeat first | exact List.Sublist.refl _ | exact List.nil_sublist _ | apply List.Sublist.cons_cons | apply List.Sublist.cons) (fun w hS => (yLdBA rfl Tryz.isAgg41 Tryz.sizeOf41 (hS.at _) rfl rfl)) ?_
 refine f_step 1 (by kernel_rfl) rfl (fun c a a' w h => by obtain ⟨_, v, hv, _⟩ := h; cases hv) (by refine hS.sub ?_; repeat first | exact List.Sublist.refl _ | exact List.nil_sublist _ | apply List.Sublist.cons_cons | apply List.Sublist.cons) (fun w hS => (yLdBA rfl Tryz.isAgg29 Tryz.sizeOf29 (hS.at _) rfl rfl)) ?_
 refine f_step 2 (by kernel_rfl) rfl (fun c a a' w h => by obtain ⟨_, v, hv, _⟩ := h; cases hv) (by refine hS.sub ?_; repeat first | exact List.Sublist.refl _ | exact List.nil_sublist _ | apply List.Sublist.cons_cons | apply List.Sublist.cons) (fun w hS => (yMove rfl)) ?_
 refine awQ <| a1Q 3 (by kernel_rfl) rfl ?_
 refine scall Tryz.call86 (.cons rfl (.cons rfl .nil)) (c_rbase (h.ext hS.ext) hok) ?_
 rintro bv w hM; replace hS := hS.call1 hM; clear hM
 refine nil ?_
 refine ⟨fun _ => (by refine hS.sub ?_; repeat first | exact List.Sublist.refl _ | exact List.nil_sublist _ | apply List.Sublist.cons_cons | apply List.Sublist.cons), ?_⟩
 refine awQ <| awQ <| a1Q 4 (by kernel_rfl) rfl ?_
 refine scall Tryz.call139 (.cons rfl (.cons rfl .nil)) (c_rwithin (RSer.stays _ _ _ _ hS.ext hs0) (sl_spans (hS.row bv) (baseS_len ..) (lbd_i64 (baseS_lbd hok now))) (hvl.trans (baseS_len ..).symm)) ?_
 rintro _ w ⟨rfl, hE⟩; replace hS := hS.step hE; clear hE
 refine nil ?_
 refine ⟨fun _ => (by refine hS.sub ?_; repeat first | exact List.Sublist.refl _ | exact List.nil_sublist _ | apply List.Sublist.cons_cons | apply List.Sublist.cons), ?_⟩
 refine awQ ?_
 refine f_step 5 (by kernel_rfl) rfl (fun c a a' w h => by obtain ⟨_, v, hv, _⟩ := h; cases hv) (by refine hS.sub ?_; repeat first | exact List.Sublist.refl _ | exact List.nil_sublist _ | apply List.Sublist.cons_cons | apply List.Sublist.cons) (fun w hS => (yNot rfl)) ?_
 refine a_end (by kernel_rfl) <| cwQ ?_
 refine cond rfl (fun c17 => ?_) (fun c17 => ?_)
 ·
  have hfin : isS t now s.vals = false := by unfold isS; rw [show hasS (baseS t now) s.vals = false by simpa using c17]; simp
  refine seq <| region <| sv (yAsg rfl) <| nil <| cwQ ?_
  refine wp_ret (thenR ?_)
  exact retV (res1 rfl (congrArg Value.bool hfin.symm)) hS.ext
 ·
  have hbase : hasS (baseS t now) s.vals = true := by simpa using c17
  refine skip <| cwQ <| seq <| seq <| region <| sv (yAsg rfl) <| nil <| cwQ <| block ?_
  refine loop (fun f w zz => ∃ (k : Nat), f 1 = .int .i64 now ∧ f 3 = .pointer (some ⟨b3, 0, none⟩) ∧ f 5 = .pointer (some ⟨b5, 0, none⟩) ∧ f 7 = .int .i64 (k : Int) ∧ StX [] w0 w [blk b5 [.int .i64 s.frm, .slice asv s.vals.length csv] 41, blk b3 [.int .i64 t.table.mean, cv, .slice ag t.gauges.length cg, .int .i64 t.wrong, .int .i64 t.frm, .int .i64 t.ticks, .slice ak t.ctrs.length ck, .slice ae t.fcs.length ce, .int .i64 t.least, .int .i64 t.most, .int .i64 t.rate, .int .i64 t.quorum] 29] ∧ (1 ≤ k ∧ (k ≤ s.vals.length)) ∧ (∀ i, 1 ≤ i → i < k → ¬ t.rate < max (s.vals.getD i 0 - s.vals.getD (i - 1) 0) (-(s.vals.getD i 0 - s.vals.getD (i - 1) 0))) ∧ zz = s.vals.length - k) _ ⟨_, rfl, 1, rfl, rfl, rfl, rfl, (by refine hS.sub ?_; repeat first | exact List.Sublist.refl _ | exact List.nil_sublist _ | apply List.Sublist.cons_cons | apply List.Sublist.cons), (⟨Nat.le_refl _, by omega⟩), (fun i h1 h2 => by omega), rfl⟩ ?_
  clear hS
  rintro f w _ ⟨k, h1, h3, h5, h7, hS, hk, hA, rfl⟩
  refine seq <| seq <| region <| sv (yMove h7) <| sv (fa41_1 h5) <| sv (yLdB rfl Tryz.isAgg39 (hS.at _) rfl) <| sv (yLen rfl Tryz.underlying39) <| sv (yLss rfl rfl) <| nil ?_
  refine cwQ ?_
  refine cond rfl (fun c22 => ?_) (fun c22 => ?_)
  ·
   simp only [BS, ne_eq] at c22
   have hkl : k < s.vals.length := by omega
   have hb1 := hs5 hkl
   have hb2 := hs5 (show k - 1 < s.vals.length by omega)
   obtain ⟨bx, ox, cx, hax, -, hcx, hRx, -⟩ := sl_at hsv (show s.vals[k]? = some (s.vals.getD k 0) by simp [List.getD, hkl])
   obtain ⟨rfl, -⟩ := hRx
   obtain ⟨by2, oy, cy, hay, -, hcy, hRy, -⟩ := sl_at hsv (show s.vals[k - 1]? = some (s.vals.getD (k - 1) 0) by simp [List.getD, show k - 1 < s.vals.length by omega])
   obtain ⟨rfl, -⟩ := hRy
   refine skip <| cwQ <| seq <| block <| seq <| region_draw mixed (by kernel_rfl) hS <| qv (fun w hS => (fa41_1 h5)) <| qv (fun w hS => (yLdB rfl Tryz.isAgg39 (hS.at _) rfl)) <| qv (fun w hS => (yMove h7)) ?_
   refine qv (fun w hS => (yIxa rfl hax rfl Tryz.runUnderlying39 Tryz.sizeOf3 (by omega) (by omega))) <| qv (fun w hS => (yLd rfl Tryz.isAgg3 (hcx.ext hS.ext).one)) <| qv (fun w hS => (fa41_1 h5)) <| qv (fun w hS => (yLdB rfl Tryz.isAgg39 (hS.at _) rfl)) <| qv (fun w hS => (yMove h7)) <| qv (fun w hS => (ySub rfl rfl ⟨by omega, by omega⟩)) <| qv (fun w hS => (yIxa (m := (k : Int) - 1) rfl hay rfl Tryz.runUnderlying39 Tryz.sizeOf3 (by omega) (by omega))) ?_
   refine qv (fun w hS => (yLd rfl Tryz.isAgg3 (show w.cell? ⟨by2, oy + ((k : Int) - 1).toNat * 1, none⟩ = _ by rw [show ((k : Int) - 1).toNat = k - 1 by omega]; exact (hcy.ext hS.ext).one))) ?_
   refine qv (fun w hS => (ySub rfl rfl ⟨by omega, by omega⟩)) <| qv (fun w hS => (yAsg rfl)) ?_
   clear hS; refine qnil (fun w hS => ?_)
   refine cwQ <| seq <| region <| sv (yMove rfl) <| sv (yMove rfl) <| sv (yNeg rfl ⟨by omega, by omega⟩) <| sv (yMax rfl rfl) <| sv (fa29_9 h3) <| sv (yLdB rfl Tryz.isAgg3 (hS.at _) rfl) ?_
   refine sv (yGtr rfl rfl) <| nil <| cwQ ?_
   refine cond rfl (fun c43 => ?_) (fun c43 => ?_)
   ·
    simp only [BS, ne_eq] at c43
    have hfin : isS t now s.vals = false := by unfold isS; rw [rrate_no hk.1 hkl c43]; rfl
    refine seq <| region <| sv (yAsg rfl) <| nil <| cwQ ?_
    refine wp_ret (blockR (thenR (thenR (blockR (thenR ?_)))))
    exact retV (res1 rfl (congrArg Value.bool hfin.symm)) hS.ext
   ·
    simp only [BS, ne_eq] at c43
    refine skip <| cwQ <| region <| sv (yMove h7) <| sv (yAdd rfl rfl ⟨by omega, by omega⟩) <| sv (yAsg rfl) <| nil ?_
    exact ⟨_, _, rfl, ⟨k + 1, h1, h3, h5, rfl, hS, (by omega), (fun i h1 h2 => by
     by_cases e : i = k
     ·
      subst e; exact c43
     ·
      exact hA i h1 (by omega)), rfl⟩, by omega⟩
  ·
   simp only [BS, ne_eq] at c22
   have hrate := rrate_yes (v := s.vals) (r := t.rate) (fun i h1 h2 => hA i h1 (by omega))
   refine exit <| cwQ <| seq <| region <| sv (yAsg rfl) <| nil <| cwQ <| seq <| region ?_
   refine sv (yLdBA h3 Tryz.isAgg29 Tryz.sizeOf29 (hS.at _) rfl rfl) <| sv (yMove h1) <| sv (yLdBA h5 Tryz.isAgg41 Tryz.sizeOf41 (hS.at _) rfl rfl) ?_
   refine scall Tryz.call78 (.cons rfl (.cons rfl (.cons rfl .nil))) (c_rright (h.ext hS.ext) hok hnow (RSer.stays _ _ _ _ hS.ext hs0) hvl) ?_
   rintro rv w hM; replace hS := hS.call1 hM; clear hM
   obtain ⟨arv, crv, rfl⟩ := row_shape (hS.row rv)
   refine sv (yAsg rfl) <| nil <| cwQ <| seq <| seq <| region <| sv (yAsg rfl) <| nil <| cwQ ?_
   refine block <| loop (fun f w zz => ∃ (k : Nat), f 1 = .int .i64 now ∧ f 3 = .pointer (some ⟨b3, 0, none⟩) ∧ f 5 = .pointer (some ⟨b5, 0, none⟩) ∧ f 9 = .int .i64 ((((rightS t now s.vals).take k).countP (fun b => b) : Nat) : Int) ∧ f 10 = .slice arv t.ctrs.length crv ∧ f 11 = .int .i64 (k : Int) ∧ StX [] w0 w [rowI (.slice arv t.ctrs.length crv) 4 1 t.ctrs.length ((rightS t now s.vals).flatMap encB), blk b5 [.int .i64 s.frm, .slice asv s.vals.length csv] 41, blk b3 [.int .i64 t.table.mean, cv, .slice ag t.gauges.length cg, .int .i64 t.wrong, .int .i64 t.frm, .int .i64 t.ticks, .slice ak t.ctrs.length ck, .slice ae t.fcs.length ce, .int .i64 t.least, .int .i64 t.most, .int .i64 t.rate, .int .i64 t.quorum] 29] ∧ (k ≤ t.ctrs.length) ∧ zz = t.ctrs.length - k) _ ⟨_, rfl, 0, h1, h3, h5, rfl, rfl, rfl, hS, (Nat.zero_le _), rfl⟩ ?_
   clear hS
   rintro f w _ ⟨k, h1, h3, h5, h9, h10, h11, hS, hk2, rfl⟩
   refine seq <| seq <| region <| sv (yMove h11) <| sv (yMove h10) <| sv (yLen rfl Tryz.underlying78) <| sv (yLss rfl rfl) <| nil <| cwQ ?_
   refine cond rfl (fun c51 => ?_) (fun c51 => ?_)
   ·
    simp only [BS, ne_eq] at c51
    have hkl : k < t.ctrs.length := by omega
    have hcnt : ((rightS t now s.vals).take k).countP (fun b => b) ≤ k := cnt_le
    obtain ⟨gr, rfl, -⟩ := row_get (hS.row (.slice arv t.ctrs.length crv)) (by omega)
    refine skip <| cwQ <| seq <| block <| seq <| region <| sv (yMove h10) <| sv (yMove h11) <| sv (yIxa rfl rfl rfl Tryz.runUnderlying78 Tryz.sizeOf4 (by omega) (by omega)) ?_
    refine sv (yLd rfl Tryz.isAgg4 (show w.cell? ⟨gr, 0 + (k : Int).toNat * 1, none⟩ = _ by rw [show 0 + (k : Int).toNat * 1 = k * 1 by omega]; exact (flat_cells0 (enc := encB) encB_len (row_at (hS.row (.slice (some ⟨gr, 0, none⟩) t.ctrs.length crv)) rfl (by omega)) (right_get hkl)).one)) ?_
    refine nil <| cwQ ?_
    refine cond rfl (fun c57 => ?_) (fun c57 => ?_)
    ·
     refine region <| sv (yMove h9) <| sv (yAdd rfl rfl ⟨by omega, by omega⟩) <| sv (yAsg rfl) <| nil <| cwQ <| region <| sv (yMove h11) <| sv (yAdd rfl rfl ⟨by omega, by omega⟩) ?_
     refine sv (yAsg rfl) <| nil ?_
     exact ⟨_, _, rfl, ⟨k + 1, h1, h3, h5, (rfl.trans (congrArg (Value.int .i64) (by rw [cnt_snoc (right_get hkl), c57]; rw [if_pos rfl]; omega))), h10, rfl, hS, (by omega), rfl⟩, by omega⟩
    ·
     refine skip <| cwQ <| region <| sv (yMove h11) <| sv (yAdd rfl rfl ⟨by omega, by omega⟩) <| sv (yAsg rfl) <| nil ?_
     exact ⟨_, _, rfl, ⟨k + 1, h1, h3, h5, (h9.trans (congrArg (Value.int .i64) (by rw [cnt_snoc (right_get hkl), c57]; rw [if_neg (by decide)]; omega))), h10, rfl, hS, (by omega), rfl⟩, by omega⟩
   ·
    simp only [BS, ne_eq] at c51
    obtain rfl : k = t.ctrs.length := by omega
    rw [show (rightS t now s.vals).take t.ctrs.length = (rightS t now s.vals) from List.take_of_length_le (by rw [right_len]; exact Nat.le_refl _)] at h9
    refine exit <| cwQ <| seq <| region <| sv (yMove h9) <| sv (yLdBA h3 Tryz.isAgg29 Tryz.sizeOf29 (hS.at _) rfl rfl) <| sv (yMove h1) ?_
    refine scall Tryz.call123 (.cons rfl (.cons rfl .nil)) (c_rneeded (h.ext hS.ext) hok hnow) ?_
    rintro _ w ⟨rfl, hE⟩; replace hS := hS.step hE; clear hE
    refine sv (yGeq rfl rfl) <| sv (yAsg rfl) <| nil <| cwQ <| wp_ret ?_
    exact retV (res1 rfl (congrArg Value.bool (show decide (needS t now ≤ ((rightS t now s.vals).countP (fun b => b) : Nat)) = isS t now s.vals by unfold isS; rw [hrate, hbase]; rfl))) hS.ext
set_option maxHeartbeats 1000000 in
theorem c_rRight {t : Sgt} {cs : List Value} {now : Int} {s : Ser} {cs2 : List Value} {w0 : World} (h : RSgt w0 cs t) (hs : RSer w0 cs2 s) : CE Tryz.prog 31 #[.agg cs.toArray, .int .i64 now, .agg cs2.toArray] w0 (fun u w' => ∃ v its, u = .tuple #[v, .int .i64 (rigR t now s).2] ∧ (∀ w2 : World, (∀ it ∈ its, it.ok w2) → Sl w2 1 RBool v ((rigR t now s).1)) ∧ St w0 w' [packI its]) := by
 obtain ⟨cv, gv, tv, fv, rfl, hT, hG, hw64, hf64, hk64, hC, hF, hl64, hm64, hr64, hq64⟩ := id h
 obtain ⟨ag, cg, rfl, hgcap, hgmx, hgel⟩ := id hG
 obtain ⟨ak, ck, rfl, hkcap, hkmx, hkel⟩ := id hC
 obtain ⟨ae, ce, rfl, hecap, hemx, heel⟩ := id hF
 have hs0 := hs
 obtain ⟨vv, rfl, hsf, hsv⟩ := hs
 obtain ⟨asv, csv, rfl, hscap, hsmx, -⟩ := id hsv
 refine enter Tryz.func31 rfl Tryz.ntmps31 rfl ?_
 have hS := St.start w0
 refine seq <| region ?_
 refine sbox hS rfl rfl ?_; clear hS; intro b3 w hS
 refine sbox hS rfl rfl ?_; clear hS; intro b5 w hS
 refine sv (yAsg rfl) <| sv (yAsg rfl) <| nil <| cwQ <| seq <| region <| sv (yLdBA rfl Tryz.isAgg29 Tryz.sizeOf29 (hS.at _) rfl rfl) <| sv (yMove rfl) <| sv (yLdBA rfl Tryz.isAgg41 Tryz.sizeOf41 (hS.at _) rfl rfl) ?_
 refine scall Tryz.call77 (.cons rfl (.cons rfl (.cons rfl .nil))) (c_rhistory (h.ext hS.ext) (RSer.stays _ _ _ _ hS.ext hs0)) ?_
 rintro _ w ⟨rfl, hE⟩; replace hS := hS.step hE; clear hE
 refine sv (yAsg rfl) <| nil <| cwQ <| seq <| seq <| region <| sv (yMove rfl) <| sv (yNeq rfl rfl) <| nil ?_
 refine cwQ ?_
 refine cond rfl (fun c14 => ?_) (fun c14 => ?_)
 ·
  simp only [BS, ne_eq] at c14
  refine seq <| region <| sv (yMove rfl) <| sv (yAsg rfl) <| sv (yAsg rfl) <| nil <| cwQ ?_
  refine wp_ret (thenR ?_)
  refine retQ (res2 rfl rfl rfl) ?_
  have hf : rigR t now s = ([], hisE t now s) := by unfold rigR; rw [if_pos c14]
  rw [hf]
  exact ⟨_, [], rfl, fun _ _ => sl_none, its0 hS⟩
 ·
  simp only [BS, ne_eq] at c14
  obtain ⟨hok, hnow, hfr, hvl, hvb⟩ := hisE_ok c14
  refine skip <| cwQ <| seq <| region <| sv (yLdBA rfl Tryz.isAgg29 Tryz.sizeOf29 (hS.at _) rfl rfl) <| sv (yMove rfl) <| sv (yLdBA rfl Tryz.isAgg41 Tryz.sizeOf41 (hS.at _) rfl rfl) ?_
  refine scall Tryz.call78 (.cons rfl (.cons rfl (.cons rfl .nil))) (c_rright (h.ext hS.ext) hok hnow (RSer.stays _ _ _ _ hS.ext hs0) hvl) ?_
  rintro rv w hM; replace hS := hS.call1 hM; clear hM
  refine sv (yAsg rfl) <| sv (yAsg rfl) <| nil <| cwQ <| wp_ret <| retQ (res2 rfl rfl rfl) ?_
  have hf : rigR t now s = ((rightS t now s.vals), 0) := by unfold rigR; rw [if_neg (fun k => k c14)]
  rw [hf]
  exact ⟨_, [rowI rv 4 1 t.ctrs.length ((rightS t now s.vals).flatMap encB)], rfl, fun w2 hi => sl_bools (hi (rowI rv 4 1 t.ctrs.length ((rightS t now s.vals).flatMap encB)) (by simp)) right_len, its1 hS⟩
set_option maxHeartbeats 1000000 in
theorem c_rIs {t : Sgt} {cs : List Value} {now : Int} {s : Ser} {cs2 : List Value} {w0 : World} (h : RSgt w0 cs t) (hs : RSer w0 cs2 s) : CV Tryz.prog 32 #[.agg cs.toArray, .int .i64 now, .agg cs2.toArray] w0 (.tuple #[.bool (isR t now s).1, .int .i64 (isR t now s).2]) := by
 obtain ⟨cv, gv, tv, fv, rfl, hT, hG, hw64, hf64, hk64, hC, hF, hl64, hm64, hr64, hq64⟩ := id h
 obtain ⟨ag, cg, rfl, hgcap, hgmx, hgel⟩ := id hG
 obtain ⟨ak, ck, rfl, hkcap, hkmx, hkel⟩ := id hC
 obtain ⟨ae, ce, rfl, hecap, hemx, heel⟩ := id hF
 have hs0 := hs
 obtain ⟨vv, rfl, hsf, hsv⟩ := hs
 obtain ⟨asv, csv, rfl, hscap, hsmx, -⟩ := id hsv
 refine enter Tryz.func32 rfl Tryz.ntmps32 rfl ?_
 have hS := St.start w0
 refine seq <| region ?_
 refine sbox hS rfl rfl ?_; clear hS; intro b3 w hS
 refine sbox hS rfl rfl ?_; clear hS; intro b5 w hS
 refine sv (yAsg rfl) <| sv (yAsg rfl) <| nil <| cwQ <| seq <| region <| sv (yLdBA rfl Tryz.isAgg29 Tryz.sizeOf29 (hS.at _) rfl rfl) <| sv (yMove rfl) <| sv (yLdBA rfl Tryz.isAgg41 Tryz.sizeOf41 (hS.at _) rfl rfl) ?_
 refine scall Tryz.call77 (.cons rfl (.cons rfl (.cons rfl .nil))) (c_rhistory (h.ext hS.ext) (RSer.stays _ _ _ _ hS.ext hs0)) ?_
 rintro _ w ⟨rfl, hE⟩; replace hS := hS.step hE; clear hE
 refine sv (yAsg rfl) <| nil <| cwQ <| seq <| seq <| region <| sv (yMove rfl) <| sv (yNeq rfl rfl) <| nil ?_
 refine cwQ ?_
 refine cond rfl (fun c14 => ?_) (fun c14 => ?_)
 ·
  simp only [BS, ne_eq] at c14
  refine seq <| region <| sv (yMove rfl) <| sv (yAsg rfl) <| sv (yAsg rfl) <| nil <| cwQ ?_
  have hf : isR t now s = (false, hisE t now s) := by unfold isR; rw [if_pos c14]
  refine wp_ret (thenR ?_)
  exact retV (res2 rfl (by rw [hf]; rfl) (by rw [hf]; rfl)) hS.ext
 ·
  simp only [BS, ne_eq] at c14
  obtain ⟨hok, hnow, hfr, hvl, hvb⟩ := hisE_ok c14
  refine skip <| cwQ <| seq <| region <| sv (yLdBA rfl Tryz.isAgg29 Tryz.sizeOf29 (hS.at _) rfl rfl) <| sv (yMove rfl) <| sv (yLdBA rfl Tryz.isAgg41 Tryz.sizeOf41 (hS.at _) rfl rfl) ?_
  refine scall Tryz.call79 (.cons rfl (.cons rfl (.cons rfl .nil))) (c_ris (h.ext hS.ext) hok hnow (RSer.stays _ _ _ _ hS.ext hs0) hvl hvb) ?_
  rintro _ w ⟨rfl, hE⟩; replace hS := hS.step hE; clear hE
  refine sv (yAsg rfl) <| sv (yAsg rfl) <| nil <| cwQ ?_
  have hf : isR t now s = (isS t now s.vals, 0) := by unfold isR; rw [if_neg (fun k => k c14)]
  refine wp_ret ?_
  exact retV (res2 rfl (by rw [hf]; rfl) (by rw [hf]; rfl)) hS.ext
end Go.Proofs.YtgidbailiababaaGreatDoor

/- part S37 -/
namespace Bx
open Go Go.RowKit
section
variable {P : Program} {ρ : Operand → Value} {w : World} {ty : TypeId}
theorem yBNe {x y : Operand} {a b : Bool} {t t' : TypeId} (hx : ρ x = .bool a) (hy : ρ y = .bool b) (ht : P.underlying t = some .bool) : Y P ρ (.binOp .neq t x y t') ty w (.bool (!(a == b))) w := by
  have h := run_neq_bool (P := P) w t a b ht
  simp [Y, xop, execOp, hx, hy, eqGuard, h]
end
end Bx

/- part Sy12 -/
namespace Go.Proofs.YtgidbailiababaaGreatDoor
open Go Bx
set_option maxHeartbeats 4000000 in
theorem w_SurgeIs {t : Sgt} {cs : List Value} {cs2 : List Value} {s : Ser} {now : Int} {w0 : World} (hg : Glb w0) (h : RSgt w0 cs t) (hI : I64 now) (hs : RSer w0 cs2 s) : CV Tryz.prog 8 #[.agg cs.toArray, .int .i64 now, .agg cs2.toArray] w0 (.bool true) := by
 obtain ⟨cv, gv, tv, fv, rfl, hT, hG, hw64, hf64, hk64, hC, hF, hl64, hm64, hr64, hq64⟩ := id h
 obtain ⟨ag, cg, rfl, hgcap, hgmx, hgel⟩ := id hG
 obtain ⟨ak, ck, rfl, hkcap, hkmx, hkel⟩ := id hC
 obtain ⟨ae, ce, rfl, hecap, hemx, heel⟩ := id hF
 obtain ⟨vv, rfl, hsf, hsv⟩ := hs
 obtain ⟨av, cvv, rfl, hvc, hvm, -⟩ := id hsv
 have hg1 := hg
 refine enter Tryz.func8 rfl Tryz.ntmps8 rfl ?_
 have hS := St.start w0
 refine seq <| region ?_
 refine sbox hS rfl rfl ?_; clear hS; intro b3 w hS
 refine sbox hS rfl rfl ?_; clear hS; intro b5 w hS
 refine sv (yAsg rfl) <| nil <| cwQ <| seq <| region <| sv (yLdBA rfl Tryz.isAgg29 Tryz.sizeOf29 (hS.at _) rfl rfl) <| sv (yMove rfl) <| sv (yLdBA rfl Tryz.isAgg41 Tryz.sizeOf41 (hS.at _) rfl rfl) ?_
 refine scall Tryz.call30 (.cons rfl (.cons rfl (.cons rfl .nil))) (c_Right (h.ext hS.ext) (hg.ext hS.ext) hI hsf (hsv.ext RInt.stays hS.ext)) ?_
 rintro _ w ⟨v1, i1, rfl, hi1, hM⟩; replace hS := hS.call1 hM; clear hM
 refine sv (yMove rfl) <| sv (yExt rfl rfl) <| sv (yExt rfl rfl) <| sv (yAsg rfl) <| sv (yAsg rfl) <| nil <| cwQ <| seq <| region ?_
 refine sv (yLdBA rfl Tryz.isAgg29 Tryz.sizeOf29 (hS.at _) rfl rfl) <| sv (yMove rfl) <| sv (yLdBA rfl Tryz.isAgg41 Tryz.sizeOf41 (hS.at _) rfl rfl) ?_
 refine scall Tryz.call31 (.cons rfl (.cons rfl (.cons rfl .nil))) (c_rRight (s := s) (h.ext hS.ext) (show RSer w [.int .i64 s.frm, .slice av s.vals.length cvv] s from ⟨_, rfl, hsf, hsv.ext RInt.stays hS.ext⟩)) ?_
 rintro _ w ⟨v2, i2, rfl, hi2, hM⟩; replace hS := hS.call1 hM; clear hM
 refine sv (yMove rfl) <| sv (yExt rfl rfl) <| sv (yExt rfl rfl) <| sv (yAsg rfl) <| sv (yAsg rfl) <| nil <| cwQ <| seq <| seq ?_
 refine region ?_
 have hl1 := (hi1 w (fun it hi => hS.ok (packI i1) (by simp) it hi))
 have hl2 := (hi2 w (fun it hi => hS.ok (packI i2) (by simp) it hi))
 obtain ⟨ax, nx, cx, rfl, hnx, hmx⟩ := sl_shape hl1
 obtain ⟨ay, ny, cy, rfl, hny, hmy⟩ := sl_shape hl2
 have hE0 := hS.ext
 have hb3 := hS.at b3
 have hb5 := hS.at b5
 have ht1 := h.ext hE0
 replace hg1 := hg.ext hE0
 have hsv1 := hsv.ext RInt.stays hE0
 obtain ⟨w0, hwq⟩ : ∃ wq, wq = w := ⟨w, rfl⟩
 rw [← hwq] at hE0 hb3 hb5 ht1 hg1 hsv1 hl1 hl2
 replace hS : StX [] w0 w [] := by rw [hwq]; exact St.start w
 clear hwq
 refine sv (yMove rfl) <| sv (yMove rfl) <| sv (yNeq rfl rfl) <| sv (yMove rfl) ?_
 refine sg rfl rfl rfl (fun g => (yMove rfl)) (fun v32 g32 => ?_)
 refine sg rfl rfl rfl (fun g => (yLen (g32.1 g) Tryz.underlying78)) (fun v33 g33 => ?_)
 refine sg rfl rfl rfl (fun g => (yMove rfl)) (fun v34 g34 => ?_)
 refine sg rfl rfl rfl (fun g => (yLen (g34.1 g) Tryz.underlying78)) (fun v35 g35 => ?_)
 refine sg rfl rfl rfl (fun g => (yNeq (g33.1 g) (g35.1 g))) (fun v36 g36 => ?_)
 refine sv (yOr rfl rfl (fun hB => (g36.1 hB))) <| nil <| cwQ ?_
 refine cond rfl (fun c37 => ?_) (fun c37 => ?_)
 ·
  exfalso
  rw [decide_eq_false (show ¬ ((nx : Int) ≠ (ny : Int)) by omega)] at c37
  simp at c37
 ·
  refine skip <| cwQ <| seq <| seq <| region <| sv (yAsg rfl) <| nil <| cwQ <| block ?_
  refine loop (fun f w zz => ∃ (k : Nat), f 1 = .int .i64 now ∧ f 3 = .pointer (some ⟨b3, 0, none⟩) ∧ f 5 = .pointer (some ⟨b5, 0, none⟩) ∧ f 7 = .slice ax nx cx ∧ f 9 = .slice ay ny cy ∧ f 11 = .int .i64 (k : Int) ∧ StX [] w0 w [] ∧ (k ≤ nx) ∧ zz = nx - k) _ ⟨_, rfl, 0, rfl, rfl, rfl, rfl, rfl, rfl, (hS.sub (List.nil_sublist _)), (Nat.zero_le _), rfl⟩ ?_
  clear hS
  rintro f w _ ⟨k, h1, h3, h5, h7, h9, h11, hS, hk, rfl⟩
  refine seq <| seq <| region <| sv (yMove h11) <| sv (yMove h7) <| sv (yLen rfl Tryz.underlying78) <| sv (yLss rfl rfl) <| nil <| cwQ ?_
  refine cond rfl (fun c41 => ?_) (fun c41 => ?_)
  ·
   simp only [BS, ne_eq] at c41
   obtain ⟨z, hxk⟩ : ∃ z, (rigR t now s).1[k]? = some z := ⟨_, List.getElem?_eq_getElem (by omega)⟩
   obtain ⟨bp, op, csp, hap, -, hcp, hRp, -⟩ := sl_at hl1 hxk
   obtain rfl := hRp
   obtain ⟨bq, oq, csq, haq, -, hcq, hRq, -⟩ := sl_at hl2 hxk
   obtain rfl := hRq
   refine skip <| cwQ <| seq <| block <| seq <| region_draw mixed (by kernel_rfl) hS <| qv (fun w hS => (yMove h7)) <| qv (fun w hS => (yMove h11)) <| qv (fun w hS => (yIxa rfl hap rfl Tryz.runUnderlying78 Tryz.sizeOf4 (by omega) (by omega))) ?_
   refine qv (fun w hS => (yLd rfl Tryz.isAgg4 (hcp.ext hS.ext).one)) <| qv (fun w hS => (yMove h9)) <| qv (fun w hS => (yMove h11)) <| qv (fun w hS => (yIxa rfl haq rfl Tryz.runUnderlying78 Tryz.sizeOf4 (by omega) (by omega))) <| qv (fun w hS => (yLd rfl Tryz.isAgg4 (hcq.ext hS.ext).one)) <| qv (fun w hS => (yBNe rfl rfl Tryz.underlying4)) ?_
   clear hS; refine qnil (fun w hS => ?_)
   refine cwQ ?_
   refine cond rfl (fun c52 => ?_) (fun c52 => ?_)
   ·
    exfalso
    simp at c52
   ·
    refine skip <| cwQ <| region <| sv (yMove h11) <| sv (yAdd rfl rfl ⟨by omega, by omega⟩) <| sv (yAsg rfl) <| nil ?_
    exact ⟨_, _, rfl, ⟨k + 1, h1, h3, h5, h7, h9, rfl, hS, (by omega), rfl⟩, by omega⟩
  ·
   simp only [BS, ne_eq] at c41
   refine exit <| cwQ <| seq <| region <| sv (yLdBA h3 Tryz.isAgg29 Tryz.sizeOf29 (hS.ext.get hb3) rfl rfl) <| sv (yMove h1) <| sv (yLdBA h5 Tryz.isAgg41 Tryz.sizeOf41 (hS.ext.get hb5) rfl rfl) ?_
   refine scall Tryz.call26 (.cons rfl (.cons rfl (.cons rfl .nil))) (c_Is (s := s) (ht1.ext hS.ext) (hg1.ext hS.ext) hI hsf (hsv1.ext RInt.stays hS.ext)) ?_
   rintro _ w ⟨rfl, hE⟩; replace hS := hS.step hE; clear hE
   refine sv (yMove rfl) <| sv (yExt rfl rfl) <| sv (yExt rfl rfl) <| sv (yAsg rfl) <| sv (yAsg rfl) <| nil <| cwQ <| seq <| region ?_
   refine sv (yLdBA h3 Tryz.isAgg29 Tryz.sizeOf29 (hS.ext.get hb3) rfl rfl) <| sv (yMove h1) <| sv (yLdBA h5 Tryz.isAgg41 Tryz.sizeOf41 (hS.ext.get hb5) rfl rfl) ?_
   refine scall Tryz.call32 (.cons rfl (.cons rfl (.cons rfl .nil))) (c_rIs (s := s) (ht1.ext hS.ext) (show RSer w [.int .i64 s.frm, .slice av s.vals.length cvv] s from ⟨_, rfl, hsf, hsv1.ext RInt.stays hS.ext⟩)) ?_
   rintro _ w ⟨rfl, hE⟩; replace hS := hS.step hE; clear hE
   refine sv (yMove rfl) <| sv (yExt rfl rfl) <| sv (yExt rfl rfl) <| sv (yAsg rfl) <| sv (yAsg rfl) <| nil <| cwQ <| seq <| region ?_
   refine sv (yMove rfl) <| sv (yMove rfl) <| sv (yBEq rfl rfl Tryz.underlying4) <| sv (yMove rfl) ?_
   refine sg rfl rfl rfl (fun g => (yMove rfl)) (fun v71 g71 => ?_)
   refine sg rfl rfl rfl (fun g => (yMove rfl)) (fun v72 g72 => ?_)
   refine sg rfl rfl rfl (fun g => (yEql (g71.1 g) (g72.1 g))) (fun v73 g73 => ?_)
   refine sv (yAnd rfl (fun hB => (g73.1 hB)) rfl) <| sv (yMove rfl) ?_
   refine sgc hS rfl rfl rfl Tryz.call19 (fun g => .nil) (fun g => (c_Awake (hg1.ext hS.ext))) ?_; clear hS; intro v76 w hS g76
   refine sv (yAnd rfl (fun hB => (g76.1 hB)) rfl) <| sv (yAsg rfl) <| nil <| cwQ <| wp_ret ?_
   exact retV (res1 rfl (congrArg Value.bool (by simp))) (hE0.trans hS.ext)
end Go.Proofs.YtgidbailiababaaGreatDoor

/- part RdF -/
namespace Go.Proofs.YtgidbailiababaaGreatDoor
open Go Bx
section
variable {H : Type} {enc : TypeId × Value → H} {w : World} {base : Nat} {spare : Nat → Bool} {held : Bool} {fuel : Nat} {cs : List Value} {x : DataW H × List MemPlace}
theorem rdF24 (h : DataW.trod enc Tryz.prog w base spare held fuel 24 cs = some x) (hW : WOk Tryz.prog 24 x.1) : ∃ n c0 c1, cs = [c0, c1] ∧ (∃ y, DataW.trod enc Tryz.prog w base spare held n 3 [c0] = some y ∧ WOk Tryz.prog 3 y.1) ∧ (∃ y, DataW.trod enc Tryz.prog w base spare held n 22 [c1] = some y ∧ WOk Tryz.prog 22 y.1) := by
  have z3 : Tryz.prog.cellsOf 3 = 1 := by kernel_rfl
  have z22 : Tryz.prog.cellsOf 22 = 1 := by kernel_rfl
  obtain ⟨hl, n, hf⟩ := rdw_fields Tryz.underlying24 h hW
  have hz : Tryz.prog.cellsOf 24 = 2 := by kernel_rfl
  rw [hz] at hl
  obtain ⟨c0, c1, rfl⟩ := two_of hl
  have f0 : ∃ y, DataW.trod enc Tryz.prog w base spare held n 3 ((List.drop 0 [c0, c1]).take (Tryz.prog.cellsOf 3)) = some y ∧ WOk Tryz.prog 3 y.1 := hf 0 _ rfl
  rw [z3] at f0
  have f1 : ∃ y, DataW.trod enc Tryz.prog w base spare held n 22 ((List.drop 1 [c0, c1]).take (Tryz.prog.cellsOf 22)) = some y ∧ WOk Tryz.prog 22 y.1 := hf 1 _ rfl
  rw [z22] at f1
  exact ⟨n, c0, c1, rfl, f0, f1⟩
theorem rdLen12_of {cs : List Value} (h : cs.length = 12) : ∃ c0 c1 c2 c3 c4 c5 c6 c7 c8 c9 c10 c11, cs = [c0, c1, c2, c3, c4, c5, c6, c7, c8, c9, c10, c11] := by
  match cs, h with
  | [c0, c1, c2, c3, c4, c5, c6, c7, c8, c9, c10, c11], _ => exact ⟨c0, c1, c2, c3, c4, c5, c6, c7, c8, c9, c10, c11, rfl⟩
theorem rdF29 (h : DataW.trod enc Tryz.prog w base spare held fuel 29 cs = some x) (hW : WOk Tryz.prog 29 x.1) : ∃ n c0 c1 c2 c3 c4 c5 c6 c7 c8 c9 c10 c11, cs = [c0, c1, c2, c3, c4, c5, c6, c7, c8, c9, c10, c11] ∧ (∃ y, DataW.trod enc Tryz.prog w base spare held n 24 [c0, c1] = some y ∧ WOk Tryz.prog 24 y.1) ∧ (∃ y, DataW.trod enc Tryz.prog w base spare held n 25 [c2] = some y ∧ WOk Tryz.prog 25 y.1) ∧ (∃ y, DataW.trod enc Tryz.prog w base spare held n 3 [c3] = some y ∧ WOk Tryz.prog 3 y.1) ∧ (∃ y, DataW.trod enc Tryz.prog w base spare held n 3 [c4] = some y ∧ WOk Tryz.prog 3 y.1) ∧ (∃ y, DataW.trod enc Tryz.prog w base spare held n 3 [c5] = some y ∧ WOk Tryz.prog 3 y.1) ∧ (∃ y, DataW.trod enc Tryz.prog w base spare held n 26 [c6] = some y ∧ WOk Tryz.prog 26 y.1) ∧ (∃ y, DataW.trod enc Tryz.prog w base spare held n 27 [c7] = some y ∧ WOk Tryz.prog 27 y.1) ∧ (∃ y, DataW.trod enc Tryz.prog w base spare held n 3 [c8] = some y ∧ WOk Tryz.prog 3 y.1) ∧ (∃ y, DataW.trod enc Tryz.prog w base spare held n 3 [c9] = some y ∧ WOk Tryz.prog 3 y.1) ∧ (∃ y, DataW.trod enc Tryz.prog w base spare held n 3 [c10] = some y ∧ WOk Tryz.prog 3 y.1) ∧ (∃ y, DataW.trod enc Tryz.prog w base spare held n 3 [c11] = some y ∧ WOk Tryz.prog 3 y.1) := by
  have z3 : Tryz.prog.cellsOf 3 = 1 := by kernel_rfl
  have z24 : Tryz.prog.cellsOf 24 = 2 := by kernel_rfl
  have z25 : Tryz.prog.cellsOf 25 = 1 := by kernel_rfl
  have z26 : Tryz.prog.cellsOf 26 = 1 := by kernel_rfl
  have z27 : Tryz.prog.cellsOf 27 = 1 := by kernel_rfl
  obtain ⟨hl, n, hf⟩ := rdw_fields Tryz.underlying29 h hW
  have hz : Tryz.prog.cellsOf 29 = 12 := by kernel_rfl
  rw [hz] at hl
  obtain ⟨c0, c1, c2, c3, c4, c5, c6, c7, c8, c9, c10, c11, rfl⟩ := rdLen12_of hl
  have f0 : ∃ y, DataW.trod enc Tryz.prog w base spare held n 24 ((List.drop 0 [c0, c1, c2, c3, c4, c5, c6, c7, c8, c9, c10, c11]).take (Tryz.prog.cellsOf 24)) = some y ∧ WOk Tryz.prog 24 y.1 := hf 0 _ rfl
  rw [z24] at f0
  have f1 : ∃ y, DataW.trod enc Tryz.prog w base spare held n 25 ((List.drop 2 [c0, c1, c2, c3, c4, c5, c6, c7, c8, c9, c10, c11]).take (Tryz.prog.cellsOf 25)) = some y ∧ WOk Tryz.prog 25 y.1 := hf 1 _ rfl
  rw [z25] at f1
  have f2 : ∃ y, DataW.trod enc Tryz.prog w base spare held n 3 ((List.drop 3 [c0, c1, c2, c3, c4, c5, c6, c7, c8, c9, c10, c11]).take (Tryz.prog.cellsOf 3)) = some y ∧ WOk Tryz.prog 3 y.1 := hf 2 _ rfl
  rw [z3] at f2
  have f3 : ∃ y, DataW.trod enc Tryz.prog w base spare held n 3 ((List.drop 4 [c0, c1, c2, c3, c4, c5, c6, c7, c8, c9, c10, c11]).take (Tryz.prog.cellsOf 3)) = some y ∧ WOk Tryz.prog 3 y.1 := hf 3 _ rfl
  rw [z3] at f3
  have f4 : ∃ y, DataW.trod enc Tryz.prog w base spare held n 3 ((List.drop 5 [c0, c1, c2, c3, c4, c5, c6, c7, c8, c9, c10, c11]).take (Tryz.prog.cellsOf 3)) = some y ∧ WOk Tryz.prog 3 y.1 := hf 4 _ rfl
  rw [z3] at f4
  have f5 : ∃ y, DataW.trod enc Tryz.prog w base spare held n 26 ((List.drop 6 [c0, c1, c2, c3, c4, c5, c6, c7, c8, c9, c10, c11]).take (Tryz.prog.cellsOf 26)) = some y ∧ WOk Tryz.prog 26 y.1 := hf 5 _ rfl
  rw [z26] at f5
  have f6 : ∃ y, DataW.trod enc Tryz.prog w base spare held n 27 ((List.drop 7 [c0, c1, c2, c3, c4, c5, c6, c7, c8, c9, c10, c11]).take (Tryz.prog.cellsOf 27)) = some y ∧ WOk Tryz.prog 27 y.1 := hf 6 _ rfl
  rw [z27] at f6
  have f7 : ∃ y, DataW.trod enc Tryz.prog w base spare held n 3 ((List.drop 8 [c0, c1, c2, c3, c4, c5, c6, c7, c8, c9, c10, c11]).take (Tryz.prog.cellsOf 3)) = some y ∧ WOk Tryz.prog 3 y.1 := hf 7 _ rfl
  rw [z3] at f7
  have f8 : ∃ y, DataW.trod enc Tryz.prog w base spare held n 3 ((List.drop 9 [c0, c1, c2, c3, c4, c5, c6, c7, c8, c9, c10, c11]).take (Tryz.prog.cellsOf 3)) = some y ∧ WOk Tryz.prog 3 y.1 := hf 8 _ rfl
  rw [z3] at f8
  have f9 : ∃ y, DataW.trod enc Tryz.prog w base spare held n 3 ((List.drop 10 [c0, c1, c2, c3, c4, c5, c6, c7, c8, c9, c10, c11]).take (Tryz.prog.cellsOf 3)) = some y ∧ WOk Tryz.prog 3 y.1 := hf 9 _ rfl
  rw [z3] at f9
  have f10 : ∃ y, DataW.trod enc Tryz.prog w base spare held n 3 ((List.drop 11 [c0, c1, c2, c3, c4, c5, c6, c7, c8, c9, c10, c11]).take (Tryz.prog.cellsOf 3)) = some y ∧ WOk Tryz.prog 3 y.1 := hf 10 _ rfl
  rw [z3] at f10
  exact ⟨n, c0, c1, c2, c3, c4, c5, c6, c7, c8, c9, c10, c11, rfl, f0, f1, f2, f3, f4, f5, f6, f7, f8, f9, f10⟩
theorem rdF41 (h : DataW.trod enc Tryz.prog w base spare held fuel 41 cs = some x) (hW : WOk Tryz.prog 41 x.1) : ∃ n c0 c1, cs = [c0, c1] ∧ (∃ y, DataW.trod enc Tryz.prog w base spare held n 3 [c0] = some y ∧ WOk Tryz.prog 3 y.1) ∧ (∃ y, DataW.trod enc Tryz.prog w base spare held n 39 [c1] = some y ∧ WOk Tryz.prog 39 y.1) := by
  have z3 : Tryz.prog.cellsOf 3 = 1 := by kernel_rfl
  have z39 : Tryz.prog.cellsOf 39 = 1 := by kernel_rfl
  obtain ⟨hl, n, hf⟩ := rdw_fields Tryz.underlying41 h hW
  have hz : Tryz.prog.cellsOf 41 = 2 := by kernel_rfl
  rw [hz] at hl
  obtain ⟨c0, c1, rfl⟩ := two_of hl
  have f0 : ∃ y, DataW.trod enc Tryz.prog w base spare held n 3 ((List.drop 0 [c0, c1]).take (Tryz.prog.cellsOf 3)) = some y ∧ WOk Tryz.prog 3 y.1 := hf 0 _ rfl
  rw [z3] at f0
  have f1 : ∃ y, DataW.trod enc Tryz.prog w base spare held n 39 ((List.drop 1 [c0, c1]).take (Tryz.prog.cellsOf 39)) = some y ∧ WOk Tryz.prog 39 y.1 := hf 1 _ rfl
  rw [z39] at f1
  exact ⟨n, c0, c1, rfl, f0, f1⟩
theorem rdF57 (h : DataW.trod enc Tryz.prog w base spare held fuel 57 cs = some x) (hW : WOk Tryz.prog 57 x.1) : ∃ n c0 c1 c2 c3, cs = [c0, c1, c2, c3] ∧ (∃ y, DataW.trod enc Tryz.prog w base spare held n 9 [c0] = some y ∧ WOk Tryz.prog 9 y.1) ∧ (∃ y, DataW.trod enc Tryz.prog w base spare held n 3 [c1] = some y ∧ WOk Tryz.prog 3 y.1) ∧ (∃ y, DataW.trod enc Tryz.prog w base spare held n 3 [c2] = some y ∧ WOk Tryz.prog 3 y.1) ∧ (∃ y, DataW.trod enc Tryz.prog w base spare held n 3 [c3] = some y ∧ WOk Tryz.prog 3 y.1) := by
  have z3 : Tryz.prog.cellsOf 3 = 1 := by kernel_rfl
  have z9 : Tryz.prog.cellsOf 9 = 1 := by kernel_rfl
  obtain ⟨hl, n, hf⟩ := rdw_fields Tryz.underlying57 h hW
  have hz : Tryz.prog.cellsOf 57 = 4 := by kernel_rfl
  rw [hz] at hl
  obtain ⟨c0, c1, c2, c3, rfl⟩ := four_of hl
  have f0 : ∃ y, DataW.trod enc Tryz.prog w base spare held n 9 ((List.drop 0 [c0, c1, c2, c3]).take (Tryz.prog.cellsOf 9)) = some y ∧ WOk Tryz.prog 9 y.1 := hf 0 _ rfl
  rw [z9] at f0
  have f1 : ∃ y, DataW.trod enc Tryz.prog w base spare held n 3 ((List.drop 1 [c0, c1, c2, c3]).take (Tryz.prog.cellsOf 3)) = some y ∧ WOk Tryz.prog 3 y.1 := hf 1 _ rfl
  rw [z3] at f1
  have f2 : ∃ y, DataW.trod enc Tryz.prog w base spare held n 3 ((List.drop 2 [c0, c1, c2, c3]).take (Tryz.prog.cellsOf 3)) = some y ∧ WOk Tryz.prog 3 y.1 := hf 2 _ rfl
  rw [z3] at f2
  have f3 : ∃ y, DataW.trod enc Tryz.prog w base spare held n 3 ((List.drop 3 [c0, c1, c2, c3]).take (Tryz.prog.cellsOf 3)) = some y ∧ WOk Tryz.prog 3 y.1 := hf 3 _ rfl
  rw [z3] at f3
  exact ⟨n, c0, c1, c2, c3, rfl, f0, f1, f2, f3⟩
theorem rdF61 (h : DataW.trod enc Tryz.prog w base spare held fuel 61 cs = some x) (hW : WOk Tryz.prog 61 x.1) : ∃ n c0 c1 c2 c3, cs = [c0, c1, c2, c3] ∧ (∃ y, DataW.trod enc Tryz.prog w base spare held n 3 [c0] = some y ∧ WOk Tryz.prog 3 y.1) ∧ (∃ y, DataW.trod enc Tryz.prog w base spare held n 3 [c1] = some y ∧ WOk Tryz.prog 3 y.1) ∧ (∃ y, DataW.trod enc Tryz.prog w base spare held n 3 [c2] = some y ∧ WOk Tryz.prog 3 y.1) ∧ (∃ y, DataW.trod enc Tryz.prog w base spare held n 59 [c3] = some y ∧ WOk Tryz.prog 59 y.1) := by
  have z3 : Tryz.prog.cellsOf 3 = 1 := by kernel_rfl
  have z59 : Tryz.prog.cellsOf 59 = 1 := by kernel_rfl
  obtain ⟨hl, n, hf⟩ := rdw_fields Tryz.underlying61 h hW
  have hz : Tryz.prog.cellsOf 61 = 4 := by kernel_rfl
  rw [hz] at hl
  obtain ⟨c0, c1, c2, c3, rfl⟩ := four_of hl
  have f0 : ∃ y, DataW.trod enc Tryz.prog w base spare held n 3 ((List.drop 0 [c0, c1, c2, c3]).take (Tryz.prog.cellsOf 3)) = some y ∧ WOk Tryz.prog 3 y.1 := hf 0 _ rfl
  rw [z3] at f0
  have f1 : ∃ y, DataW.trod enc Tryz.prog w base spare held n 3 ((List.drop 1 [c0, c1, c2, c3]).take (Tryz.prog.cellsOf 3)) = some y ∧ WOk Tryz.prog 3 y.1 := hf 1 _ rfl
  rw [z3] at f1
  have f2 : ∃ y, DataW.trod enc Tryz.prog w base spare held n 3 ((List.drop 2 [c0, c1, c2, c3]).take (Tryz.prog.cellsOf 3)) = some y ∧ WOk Tryz.prog 3 y.1 := hf 2 _ rfl
  rw [z3] at f2
  have f3 : ∃ y, DataW.trod enc Tryz.prog w base spare held n 59 ((List.drop 3 [c0, c1, c2, c3]).take (Tryz.prog.cellsOf 59)) = some y ∧ WOk Tryz.prog 59 y.1 := hf 3 _ rfl
  rw [z59] at f3
  exact ⟨n, c0, c1, c2, c3, rfl, f0, f1, f2, f3⟩
theorem rdF68 (h : DataW.trod enc Tryz.prog w base spare held fuel 68 cs = some x) (hW : WOk Tryz.prog 68 x.1) : ∃ n c0 c1 c2 c3 c4, cs = [c0, c1, c2, c3, c4] ∧ (∃ y, DataW.trod enc Tryz.prog w base spare held n 9 [c0] = some y ∧ WOk Tryz.prog 9 y.1) ∧ (∃ y, DataW.trod enc Tryz.prog w base spare held n 3 [c1] = some y ∧ WOk Tryz.prog 3 y.1) ∧ (∃ y, DataW.trod enc Tryz.prog w base spare held n 3 [c2] = some y ∧ WOk Tryz.prog 3 y.1) ∧ (∃ y, DataW.trod enc Tryz.prog w base spare held n 65 [c3] = some y ∧ WOk Tryz.prog 65 y.1) ∧ (∃ y, DataW.trod enc Tryz.prog w base spare held n 66 [c4] = some y ∧ WOk Tryz.prog 66 y.1) := by
  have z3 : Tryz.prog.cellsOf 3 = 1 := by kernel_rfl
  have z9 : Tryz.prog.cellsOf 9 = 1 := by kernel_rfl
  have z65 : Tryz.prog.cellsOf 65 = 1 := by kernel_rfl
  have z66 : Tryz.prog.cellsOf 66 = 1 := by kernel_rfl
  obtain ⟨hl, n, hf⟩ := rdw_fields Tryz.underlying68 h hW
  have hz : Tryz.prog.cellsOf 68 = 5 := by kernel_rfl
  rw [hz] at hl
  obtain ⟨c0, c1, c2, c3, c4, rfl⟩ := five_of hl
  have f0 : ∃ y, DataW.trod enc Tryz.prog w base spare held n 9 ((List.drop 0 [c0, c1, c2, c3, c4]).take (Tryz.prog.cellsOf 9)) = some y ∧ WOk Tryz.prog 9 y.1 := hf 0 _ rfl
  rw [z9] at f0
  have f1 : ∃ y, DataW.trod enc Tryz.prog w base spare held n 3 ((List.drop 1 [c0, c1, c2, c3, c4]).take (Tryz.prog.cellsOf 3)) = some y ∧ WOk Tryz.prog 3 y.1 := hf 1 _ rfl
  rw [z3] at f1
  have f2 : ∃ y, DataW.trod enc Tryz.prog w base spare held n 3 ((List.drop 2 [c0, c1, c2, c3, c4]).take (Tryz.prog.cellsOf 3)) = some y ∧ WOk Tryz.prog 3 y.1 := hf 2 _ rfl
  rw [z3] at f2
  have f3 : ∃ y, DataW.trod enc Tryz.prog w base spare held n 65 ((List.drop 3 [c0, c1, c2, c3, c4]).take (Tryz.prog.cellsOf 65)) = some y ∧ WOk Tryz.prog 65 y.1 := hf 3 _ rfl
  rw [z65] at f3
  have f4 : ∃ y, DataW.trod enc Tryz.prog w base spare held n 66 ((List.drop 4 [c0, c1, c2, c3, c4]).take (Tryz.prog.cellsOf 66)) = some y ∧ WOk Tryz.prog 66 y.1 := hf 4 _ rfl
  rw [z66] at f4
  exact ⟨n, c0, c1, c2, c3, c4, rfl, f0, f1, f2, f3, f4⟩
theorem rdF70 (h : DataW.trod enc Tryz.prog w base spare held fuel 70 cs = some x) (hW : WOk Tryz.prog 70 x.1) : ∃ n c0 c1, cs = [c0, c1] ∧ (∃ y, DataW.trod enc Tryz.prog w base spare held n 3 [c0] = some y ∧ WOk Tryz.prog 3 y.1) ∧ (∃ y, DataW.trod enc Tryz.prog w base spare held n 3 [c1] = some y ∧ WOk Tryz.prog 3 y.1) := by
  have z3 : Tryz.prog.cellsOf 3 = 1 := by kernel_rfl
  obtain ⟨hl, n, hf⟩ := rdw_fields Tryz.underlying70 h hW
  have hz : Tryz.prog.cellsOf 70 = 2 := by kernel_rfl
  rw [hz] at hl
  obtain ⟨c0, c1, rfl⟩ := two_of hl
  have f0 : ∃ y, DataW.trod enc Tryz.prog w base spare held n 3 ((List.drop 0 [c0, c1]).take (Tryz.prog.cellsOf 3)) = some y ∧ WOk Tryz.prog 3 y.1 := hf 0 _ rfl
  rw [z3] at f0
  have f1 : ∃ y, DataW.trod enc Tryz.prog w base spare held n 3 ((List.drop 1 [c0, c1]).take (Tryz.prog.cellsOf 3)) = some y ∧ WOk Tryz.prog 3 y.1 := hf 1 _ rfl
  rw [z3] at f1
  exact ⟨n, c0, c1, rfl, f0, f1⟩
theorem rdF74 (h : DataW.trod enc Tryz.prog w base spare held fuel 74 cs = some x) (hW : WOk Tryz.prog 74 x.1) : ∃ n c0 c1, cs = [c0, c1] ∧ (∃ y, DataW.trod enc Tryz.prog w base spare held n 3 [c0] = some y ∧ WOk Tryz.prog 3 y.1) ∧ (∃ y, DataW.trod enc Tryz.prog w base spare held n 3 [c1] = some y ∧ WOk Tryz.prog 3 y.1) := by
  have z3 : Tryz.prog.cellsOf 3 = 1 := by kernel_rfl
  obtain ⟨hl, n, hf⟩ := rdw_fields Tryz.underlying74 h hW
  have hz : Tryz.prog.cellsOf 74 = 2 := by kernel_rfl
  rw [hz] at hl
  obtain ⟨c0, c1, rfl⟩ := two_of hl
  have f0 : ∃ y, DataW.trod enc Tryz.prog w base spare held n 3 ((List.drop 0 [c0, c1]).take (Tryz.prog.cellsOf 3)) = some y ∧ WOk Tryz.prog 3 y.1 := hf 0 _ rfl
  rw [z3] at f0
  have f1 : ∃ y, DataW.trod enc Tryz.prog w base spare held n 3 ((List.drop 1 [c0, c1]).take (Tryz.prog.cellsOf 3)) = some y ∧ WOk Tryz.prog 3 y.1 := hf 1 _ rfl
  rw [z3] at f1
  exact ⟨n, c0, c1, rfl, f0, f1⟩
theorem rdF196 (h : DataW.trod enc Tryz.prog w base spare held fuel 196 cs = some x) (hW : WOk Tryz.prog 196 x.1) : ∃ n c0 c1 c2 c3 c4 c5, cs = [c0, c1, c2, c3, c4, c5] ∧ (∃ y, DataW.trod enc Tryz.prog w base spare held n 9 [c0] = some y ∧ WOk Tryz.prog 9 y.1) ∧ (∃ y, DataW.trod enc Tryz.prog w base spare held n 39 [c1] = some y ∧ WOk Tryz.prog 39 y.1) ∧ (∃ y, DataW.trod enc Tryz.prog w base spare held n 3 [c2] = some y ∧ WOk Tryz.prog 3 y.1) ∧ (∃ y, DataW.trod enc Tryz.prog w base spare held n 3 [c3] = some y ∧ WOk Tryz.prog 3 y.1) ∧ (∃ y, DataW.trod enc Tryz.prog w base spare held n 3 [c4] = some y ∧ WOk Tryz.prog 3 y.1) ∧ (∃ y, DataW.trod enc Tryz.prog w base spare held n 3 [c5] = some y ∧ WOk Tryz.prog 3 y.1) := by
  have z3 : Tryz.prog.cellsOf 3 = 1 := by kernel_rfl
  have z9 : Tryz.prog.cellsOf 9 = 1 := by kernel_rfl
  have z39 : Tryz.prog.cellsOf 39 = 1 := by kernel_rfl
  obtain ⟨hl, n, hf⟩ := rdw_fields Tryz.underlying196 h hW
  have hz : Tryz.prog.cellsOf 196 = 6 := by kernel_rfl
  rw [hz] at hl
  obtain ⟨c0, c1, c2, c3, c4, c5, rfl⟩ := six_of hl
  have f0 : ∃ y, DataW.trod enc Tryz.prog w base spare held n 9 ((List.drop 0 [c0, c1, c2, c3, c4, c5]).take (Tryz.prog.cellsOf 9)) = some y ∧ WOk Tryz.prog 9 y.1 := hf 0 _ rfl
  rw [z9] at f0
  have f1 : ∃ y, DataW.trod enc Tryz.prog w base spare held n 39 ((List.drop 1 [c0, c1, c2, c3, c4, c5]).take (Tryz.prog.cellsOf 39)) = some y ∧ WOk Tryz.prog 39 y.1 := hf 1 _ rfl
  rw [z39] at f1
  have f2 : ∃ y, DataW.trod enc Tryz.prog w base spare held n 3 ((List.drop 2 [c0, c1, c2, c3, c4, c5]).take (Tryz.prog.cellsOf 3)) = some y ∧ WOk Tryz.prog 3 y.1 := hf 2 _ rfl
  rw [z3] at f2
  have f3 : ∃ y, DataW.trod enc Tryz.prog w base spare held n 3 ((List.drop 3 [c0, c1, c2, c3, c4, c5]).take (Tryz.prog.cellsOf 3)) = some y ∧ WOk Tryz.prog 3 y.1 := hf 3 _ rfl
  rw [z3] at f3
  have f4 : ∃ y, DataW.trod enc Tryz.prog w base spare held n 3 ((List.drop 4 [c0, c1, c2, c3, c4, c5]).take (Tryz.prog.cellsOf 3)) = some y ∧ WOk Tryz.prog 3 y.1 := hf 4 _ rfl
  rw [z3] at f4
  have f5 : ∃ y, DataW.trod enc Tryz.prog w base spare held n 3 ((List.drop 5 [c0, c1, c2, c3, c4, c5]).take (Tryz.prog.cellsOf 3)) = some y ∧ WOk Tryz.prog 3 y.1 := hf 5 _ rfl
  rw [z3] at f5
  exact ⟨n, c0, c1, c2, c3, c4, c5, rfl, f0, f1, f2, f3, f4, f5⟩
theorem rdF205 (h : DataW.trod enc Tryz.prog w base spare held fuel 205 cs = some x) (hW : WOk Tryz.prog 205 x.1) : ∃ n c0 c1 c2, cs = [c0, c1, c2] ∧ (∃ y, DataW.trod enc Tryz.prog w base spare held n 3 [c0] = some y ∧ WOk Tryz.prog 3 y.1) ∧ (∃ y, DataW.trod enc Tryz.prog w base spare held n 74 [c1, c2] = some y ∧ WOk Tryz.prog 74 y.1) := by
  have z3 : Tryz.prog.cellsOf 3 = 1 := by kernel_rfl
  have z74 : Tryz.prog.cellsOf 74 = 2 := by kernel_rfl
  obtain ⟨hl, n, hf⟩ := rdw_fields Tryz.underlying205 h hW
  have hz : Tryz.prog.cellsOf 205 = 3 := by kernel_rfl
  rw [hz] at hl
  obtain ⟨c0, c1, c2, rfl⟩ := three_of hl
  have f0 : ∃ y, DataW.trod enc Tryz.prog w base spare held n 3 ((List.drop 0 [c0, c1, c2]).take (Tryz.prog.cellsOf 3)) = some y ∧ WOk Tryz.prog 3 y.1 := hf 0 _ rfl
  rw [z3] at f0
  have f1 : ∃ y, DataW.trod enc Tryz.prog w base spare held n 74 ((List.drop 1 [c0, c1, c2]).take (Tryz.prog.cellsOf 74)) = some y ∧ WOk Tryz.prog 74 y.1 := hf 1 _ rfl
  rw [z74] at f1
  exact ⟨n, c0, c1, c2, rfl, f0, f1⟩
end
end Go.Proofs.YtgidbailiababaaGreatDoor

/- part Rd1 -/
namespace Go.Proofs.YtgidbailiababaaGreatDoor
open Go Bx
theorem rd_Ints : RdW Tryz.prog 39 (fun w cs (l : List Int) => ∃ v, cs = [v] ∧ Sl w 1 RInt v l ∧ l.length * 8 ≤ 140737488351232) := rdw_slice (Rd.w (rd_int Tryz.underlying3)) (by kernel_rfl) (by decide) Tryz.underlying39 (by kernel_rfl)
theorem rd_Row : RdW Tryz.prog 39 RRow := fun H enc w base spare held fuel cs x h hW => by obtain ⟨a, v, e, i, -⟩ := rd_Ints H enc w base spare held fuel cs x h hW; exact ⟨a, v, e, i⟩
theorem rd_Rows : RdW Tryz.prog 59 (fun w cs (l : List (List Int)) => ∃ v, cs = [v] ∧ Sl w 1 RRow v l ∧ l.length * 24 ≤ 140737488351232) := rdw_slice rd_Row (by kernel_rfl) (by decide) Tryz.underlying59 (by kernel_rfl)
theorem rd_Span : RdW Tryz.prog 74 RSpan := by
  intro H enc w base spare held fuel cs x h hW
  obtain ⟨n, c0, c1, rfl, ⟨y0, f0, k0⟩, ⟨y1, f1, k1⟩⟩ := rdF74 h hW
  obtain ⟨a0, g0⟩ := (Rd.w (rd_int Tryz.underlying3)) _ _ _ _ _ _ _ _ _ f0 k0
  obtain ⟨a1, g1⟩ := (Rd.w (rd_int Tryz.underlying3)) _ _ _ _ _ _ _ _ _ f1 k1
  obtain ⟨e0, i0⟩ := g0; obtain ⟨e1, i1⟩ := g1; cases e0; cases e1; exact ⟨⟨a0, a1⟩, rfl, i0, i1⟩
theorem rd_Datum : RdW Tryz.prog 205 RDatum := by
  intro H enc w base spare held fuel cs x h hW
  obtain ⟨n, c0, c1, c2, rfl, ⟨y0, f0, k0⟩, ⟨y1, f1, k1⟩⟩ := rdF205 h hW
  obtain ⟨a0, g0⟩ := (Rd.w (rd_int Tryz.underlying3)) _ _ _ _ _ _ _ _ _ f0 k0
  obtain ⟨a1, g1⟩ := rd_Span _ _ _ _ _ _ _ _ _ f1 k1
  obtain ⟨e0, i0⟩ := g0; obtain ⟨e1, i1, i2⟩ := g1; cases e0; cases e1; exact ⟨⟨a0, a1⟩, rfl, i0, i1, i2⟩
theorem rd_Datums : RdW Tryz.prog 65 (fun w cs (l : List Datum) => ∃ v, cs = [v] ∧ Sl w 3 RDatum v l ∧ l.length * 24 ≤ 140737488351232) := rdw_slice rd_Datum (by kernel_rfl) (by decide) Tryz.underlying65 (by kernel_rfl)
theorem rd_Reading : RdW Tryz.prog 70 RRead := by
  intro H enc w base spare held fuel cs x h hW
  obtain ⟨n, c0, c1, rfl, ⟨y0, f0, k0⟩, ⟨y1, f1, k1⟩⟩ := rdF70 h hW
  obtain ⟨a0, g0⟩ := (Rd.w (rd_int Tryz.underlying3)) _ _ _ _ _ _ _ _ _ f0 k0
  obtain ⟨a1, g1⟩ := (Rd.w (rd_int Tryz.underlying3)) _ _ _ _ _ _ _ _ _ f1 k1
  obtain ⟨e0, i0⟩ := g0; obtain ⟨e1, i1⟩ := g1; cases e0; cases e1; exact ⟨⟨a0, a1⟩, rfl, i0, i1⟩
theorem rd_Readings : RdW Tryz.prog 66 (fun w cs (l : List Reading) => ∃ v, cs = [v] ∧ Sl w 2 RRead v l ∧ l.length * 16 ≤ 140737488351232) := rdw_slice rd_Reading (by kernel_rfl) (by decide) Tryz.underlying66 (by kernel_rfl)
theorem rd_Gauge : RdW Tryz.prog 68 RGauge := by
  intro H enc w base spare held fuel cs x h hW
  obtain ⟨n, c0, c1, c2, c3, c4, rfl, ⟨y0, f0, k0⟩, ⟨y1, f1, k1⟩, ⟨y2, f2, k2⟩, ⟨y3, f3, k3⟩, ⟨y4, f4, k4⟩⟩ := rdF68 h hW
  obtain ⟨a0, g0⟩ := (Rd.w (rd_str Tryz.underlying9)) _ _ _ _ _ _ _ _ _ f0 k0
  obtain ⟨a1, g1⟩ := (Rd.w (rd_int Tryz.underlying3)) _ _ _ _ _ _ _ _ _ f1 k1
  obtain ⟨a2, g2⟩ := (Rd.w (rd_int Tryz.underlying3)) _ _ _ _ _ _ _ _ _ f2 k2
  obtain ⟨a3, g3⟩ := rd_Datums _ _ _ _ _ _ _ _ _ f3 k3
  obtain ⟨a4, g4⟩ := rd_Readings _ _ _ _ _ _ _ _ _ f4 k4
  obtain ⟨e0, i0⟩ := g0; obtain ⟨e1, i1⟩ := g1; obtain ⟨e2, i2⟩ := g2; obtain ⟨v3, e3, i3, r3⟩ := g3; obtain ⟨v4, e4, i4, r4⟩ := g4; cases e0; cases e1; cases e2; cases e3; cases e4; exact ⟨⟨a0, a1, a2, a3, a4⟩, _, _, rfl, i0, i1, i2, i3, i4⟩
theorem rd_Gauges : RdW Tryz.prog 25 (fun w cs (l : List Gauge) => ∃ v, cs = [v] ∧ Sl w 5 RGauge v l ∧ l.length * 80 ≤ 140737488351232) := rdw_slice rd_Gauge (by kernel_rfl) (by decide) Tryz.underlying25 (by kernel_rfl)
theorem rd_Const : RdW Tryz.prog 196 RConst := by
  intro H enc w base spare held fuel cs x h hW
  obtain ⟨n, c0, c1, c2, c3, c4, c5, rfl, ⟨y0, f0, k0⟩, ⟨y1, f1, k1⟩, ⟨y2, f2, k2⟩, ⟨y3, f3, k3⟩, ⟨y4, f4, k4⟩, ⟨y5, f5, k5⟩⟩ := rdF196 h hW
  obtain ⟨a0, g0⟩ := (Rd.w (rd_str Tryz.underlying9)) _ _ _ _ _ _ _ _ _ f0 k0
  obtain ⟨a1, g1⟩ := rd_Ints _ _ _ _ _ _ _ _ _ f1 k1
  obtain ⟨a2, g2⟩ := (Rd.w (rd_int Tryz.underlying3)) _ _ _ _ _ _ _ _ _ f2 k2
  obtain ⟨a3, g3⟩ := (Rd.w (rd_int Tryz.underlying3)) _ _ _ _ _ _ _ _ _ f3 k3
  obtain ⟨a4, g4⟩ := (Rd.w (rd_int Tryz.underlying3)) _ _ _ _ _ _ _ _ _ f4 k4
  obtain ⟨a5, g5⟩ := (Rd.w (rd_int Tryz.underlying3)) _ _ _ _ _ _ _ _ _ f5 k5
  obtain ⟨e0, i0⟩ := g0; obtain ⟨e2, i2⟩ := g2; obtain ⟨e3, i3⟩ := g3; obtain ⟨e4, i4⟩ := g4; obtain ⟨e5, i5⟩ := g5; obtain ⟨v1, e1, i1, r1⟩ := g1; cases e0; cases e1; cases e2; cases e3; cases e4; cases e5; exact ⟨⟨a0, a1, a2, a3, a4, a5⟩, _, rfl, i0, i1, i2, i3, i4, i5⟩
theorem rd_Consts : RdW Tryz.prog 22 (fun w cs (l : List Const) => ∃ v, cs = [v] ∧ Sl w 6 RConst v l ∧ l.length * 72 ≤ 140737488351232) := rdw_slice rd_Const (by kernel_rfl) (by decide) Tryz.underlying22 (by kernel_rfl)
theorem rd_Table : RdW Tryz.prog 24 RTable := by
  intro H enc w base spare held fuel cs x h hW
  obtain ⟨n, c0, c1, rfl, ⟨y0, f0, k0⟩, ⟨y1, f1, k1⟩⟩ := rdF24 h hW
  obtain ⟨a0, g0⟩ := (Rd.w (rd_int Tryz.underlying3)) _ _ _ _ _ _ _ _ _ f0 k0
  obtain ⟨a1, g1⟩ := rd_Consts _ _ _ _ _ _ _ _ _ f1 k1
  obtain ⟨e0, i0⟩ := g0; obtain ⟨v1, e1, i1, r1⟩ := g1; cases e0; cases e1; exact ⟨⟨a0, a1⟩, _, rfl, i0, i1⟩
theorem rd_Ctr : RdW Tryz.prog 57 RCtr := by
  intro H enc w base spare held fuel cs x h hW
  obtain ⟨n, c0, c1, c2, c3, rfl, ⟨y0, f0, k0⟩, ⟨y1, f1, k1⟩, ⟨y2, f2, k2⟩, ⟨y3, f3, k3⟩⟩ := rdF57 h hW
  obtain ⟨a0, g0⟩ := (Rd.w (rd_str Tryz.underlying9)) _ _ _ _ _ _ _ _ _ f0 k0
  obtain ⟨a1, g1⟩ := (Rd.w (rd_int Tryz.underlying3)) _ _ _ _ _ _ _ _ _ f1 k1
  obtain ⟨a2, g2⟩ := (Rd.w (rd_int Tryz.underlying3)) _ _ _ _ _ _ _ _ _ f2 k2
  obtain ⟨a3, g3⟩ := (Rd.w (rd_int Tryz.underlying3)) _ _ _ _ _ _ _ _ _ f3 k3
  obtain ⟨e0, i0⟩ := g0; obtain ⟨e1, i1⟩ := g1; obtain ⟨e2, i2⟩ := g2; obtain ⟨e3, i3⟩ := g3; cases e0; cases e1; cases e2; cases e3; exact ⟨⟨a0, a1, a2, a3⟩, rfl, i0, i1, i2, i3⟩
theorem rd_Ctrs : RdW Tryz.prog 26 (fun w cs (l : List Ctr) => ∃ v, cs = [v] ∧ Sl w 4 RCtr v l ∧ l.length * 40 ≤ 140737488351232) := rdw_slice rd_Ctr (by kernel_rfl) (by decide) Tryz.underlying26 (by kernel_rfl)
theorem rd_Fct : RdW Tryz.prog 61 RFct := by
  intro H enc w base spare held fuel cs x h hW
  obtain ⟨n, c0, c1, c2, c3, rfl, ⟨y0, f0, k0⟩, ⟨y1, f1, k1⟩, ⟨y2, f2, k2⟩, ⟨y3, f3, k3⟩⟩ := rdF61 h hW
  obtain ⟨a0, g0⟩ := (Rd.w (rd_int Tryz.underlying3)) _ _ _ _ _ _ _ _ _ f0 k0
  obtain ⟨a1, g1⟩ := (Rd.w (rd_int Tryz.underlying3)) _ _ _ _ _ _ _ _ _ f1 k1
  obtain ⟨a2, g2⟩ := (Rd.w (rd_int Tryz.underlying3)) _ _ _ _ _ _ _ _ _ f2 k2
  obtain ⟨a3, g3⟩ := rd_Rows _ _ _ _ _ _ _ _ _ f3 k3
  obtain ⟨e0, i0⟩ := g0; obtain ⟨e1, i1⟩ := g1; obtain ⟨e2, i2⟩ := g2; obtain ⟨v3, e3, i3, r3⟩ := g3; cases e0; cases e1; cases e2; cases e3; exact ⟨⟨a0, a1, a2, a3⟩, _, rfl, i0, i1, i2, i3⟩
theorem rd_Fcts : RdW Tryz.prog 27 (fun w cs (l : List Fct) => ∃ v, cs = [v] ∧ Sl w 4 RFct v l ∧ l.length * 48 ≤ 140737488351232) := rdw_slice rd_Fct (by kernel_rfl) (by decide) Tryz.underlying27 (by kernel_rfl)
theorem rd_Sgt : RdW Tryz.prog 29 RSgt := by
  intro H enc w base spare held fuel cs x h hW
  obtain ⟨n, c0, c1, c2, c3, c4, c5, c6, c7, c8, c9, c10, c11, rfl, ⟨y0, f0, k0⟩, ⟨y1, f1, k1⟩, ⟨y2, f2, k2⟩, ⟨y3, f3, k3⟩, ⟨y4, f4, k4⟩, ⟨y5, f5, k5⟩, ⟨y6, f6, k6⟩, ⟨y7, f7, k7⟩, ⟨y8, f8, k8⟩, ⟨y9, f9, k9⟩, ⟨y10, f10, k10⟩⟩ := rdF29 h hW
  obtain ⟨a0, g0⟩ := rd_Table _ _ _ _ _ _ _ _ _ f0 k0
  obtain ⟨a1, g1⟩ := rd_Gauges _ _ _ _ _ _ _ _ _ f1 k1
  obtain ⟨a2, g2⟩ := (Rd.w (rd_int Tryz.underlying3)) _ _ _ _ _ _ _ _ _ f2 k2
  obtain ⟨a3, g3⟩ := (Rd.w (rd_int Tryz.underlying3)) _ _ _ _ _ _ _ _ _ f3 k3
  obtain ⟨a4, g4⟩ := (Rd.w (rd_int Tryz.underlying3)) _ _ _ _ _ _ _ _ _ f4 k4
  obtain ⟨a5, g5⟩ := rd_Ctrs _ _ _ _ _ _ _ _ _ f5 k5
  obtain ⟨a6, g6⟩ := rd_Fcts _ _ _ _ _ _ _ _ _ f6 k6
  obtain ⟨a7, g7⟩ := (Rd.w (rd_int Tryz.underlying3)) _ _ _ _ _ _ _ _ _ f7 k7
  obtain ⟨a8, g8⟩ := (Rd.w (rd_int Tryz.underlying3)) _ _ _ _ _ _ _ _ _ f8 k8
  obtain ⟨a9, g9⟩ := (Rd.w (rd_int Tryz.underlying3)) _ _ _ _ _ _ _ _ _ f9 k9
  obtain ⟨a10, g10⟩ := (Rd.w (rd_int Tryz.underlying3)) _ _ _ _ _ _ _ _ _ f10 k10
  obtain ⟨q0, e0, t0, t1⟩ := g0; obtain ⟨e2, i2⟩ := g2; obtain ⟨e3, i3⟩ := g3; obtain ⟨e4, i4⟩ := g4; obtain ⟨e7, i7⟩ := g7; obtain ⟨e8, i8⟩ := g8; obtain ⟨e9, i9⟩ := g9; obtain ⟨e10, i10⟩ := g10; obtain ⟨v1, e1, i1, r1⟩ := g1; obtain ⟨v5, e5, i5, r5⟩ := g5; obtain ⟨v6, e6, i6, r6⟩ := g6; cases e0; cases e1; cases e2; cases e3; cases e4; cases e5; cases e6; cases e7; cases e8; cases e9; cases e10; exact ⟨⟨a0, a1, a2, a3, a4, a5, a6, a7, a8, a9, a10⟩, _, _, _, _, rfl, ⟨_, rfl, t0, t1⟩, i1, i2, i3, i4, i5, i6, i7, i8, i9, i10⟩
theorem rd_Ser : RdW Tryz.prog 41 RSer := by
  intro H enc w base spare held fuel cs x h hW
  obtain ⟨n, c0, c1, rfl, ⟨y0, f0, k0⟩, ⟨y1, f1, k1⟩⟩ := rdF41 h hW
  obtain ⟨a0, g0⟩ := (Rd.w (rd_int Tryz.underlying3)) _ _ _ _ _ _ _ _ _ f0 k0
  obtain ⟨a1, g1⟩ := rd_Ints _ _ _ _ _ _ _ _ _ f1 k1
  obtain ⟨e0, i0⟩ := g0; obtain ⟨v1, e1, i1, r1⟩ := g1; cases e0; cases e1; exact ⟨⟨a0, a1⟩, _, rfl, i0, i1⟩
end Go.Proofs.YtgidbailiababaaGreatDoor

/- part Laid -/
namespace Go.Proofs.YtgidbailiababaaGreatDoor
open Go Bx Go.ChangeShapes Go.WideShapes Go.RowKit
theorem laidEt : Tryz.prog.globalNamed "barrage/surge.level" = some 0 := by kernel_rfl
theorem laidTy : (Tryz.prog.globals[0]?).map (·.type) = some 74 := by kernel_rfl
theorem glb_of_laid {W : World} (h : laidMetH Tryz.prog [("barrage/surge.level", Rows.laid_barrage_surge_level)] W) : Glb W := by
  have h' : laidMet Tryz.prog [("barrage/surge.level", Rows.laid_barrage_surge_level)] W := h
  obtain ⟨ps, hv, -, -⟩ := h'
  obtain ⟨g, t, cs, fuel, p, q, hg, ht, hw, htr, -, -⟩ := hv
  obtain rfl : 0 = g := Option.some.inj (laidEt.symm.trans hg)
  obtain rfl : 74 = t := Option.some.inj (laidTy.symm.trans ht)
  obtain ⟨y0, y1, n, hx, hlen, h0, h1⟩ := trod_struct2 Tryz.underlying74 htr
  obtain ⟨a, e0, rfl, -⟩ := DataW.trod_int Tryz.underlying3 h0
  obtain ⟨b, e1, rfl, -⟩ := DataW.trod_int Tryz.underlying3 h1
  have hl2 : cs.toList.length = 2 := hlen.trans (by kernel_rfl)
  have hc : Tryz.prog.cellsOf 3 = 1 := by kernel_rfl
  obtain ⟨u0, u1, hcs⟩ : ∃ u0 u1, cs.toList = [u0, u1] := by
    match hm : cs.toList, hl2 with
    | [u0, u1], _ => exact ⟨u0, u1, rfl⟩
  rw [hcs] at e0 e1
  simp only [hc] at e0 e1
  have d0 : u0 = .int .i64 a := by simpa using e0
  have d1 : u1 = .int .i64 b := by simpa using e1
  have hd : (a = -20000) ∧ b = 20000 := by
    have := (Prod.mk.inj hx).1
    unfold Rows.laid_barrage_surge_level at this
    injection this with this
    simp only [List.cons.injEq, DataW.lit.injEq, Lit.int.injEq, and_true, true_and] at this
    exact ⟨this.1.symm, this.2.symm⟩
  obtain ⟨rfl, rfl⟩ := hd
  subst d0; subst d1
  intro j u hj
  have := World.var?_cell laidEt hw j
  rw [Nat.zero_add, this, ← Array.getElem?_toList, hcs]
  exact hj
noncomputable def laidWorld (os : Os) : World :=
  let w0 := World.holding Tryz.prog os ⟨#[], #[], []⟩
  { w0 with heap := w0.heap.modify 0 fun
      | .cells _ t frozen => .cells #[.int .i64 (-20000), .int .i64 20000] t frozen
      | o => o }
theorem laidWorld_met (os : Os) (args : Array Value) : laidMetH Tryz.prog [("barrage/surge.level", Rows.laid_barrage_surge_level)] ((laidWorld os).forCall (fun _ _ => 0) ⟨#[], args, []⟩).memory :=
  laidMetH_of_parts (laidMet_of_run (ps := [.cell 0 0, .cell 0 1]) 8 (by kernel_rfl) (by kernel_rfl) (by kernel_rfl)) (by kernel_rfl)
end Go.Proofs.YtgidbailiababaaGreatDoor

