/- Merged texts, part 6. -/
import Derived.Test.YtgidbailiababaaGreatDoorQ5
import Derived.Test.YtgidbailiababaaGreatDoorProg
import Derived.Test.YtgidbailiababaaGreatDoorRows
import Derived.ChangeSame
import Derived.ChangeVars
import Derived.ChangeArms
import Derived.JoinedOf
import Derived.RowKit
import Derived.FnData
import Derived.LaidLaws
import Derived.LaidHandle
import Derived.Stop.Joined
set_option linter.all false
/- part Sy2 -/
namespace Go.Proofs.YtgidbailiababaaGreatDoor
open Go Bx Go.Proofs.Tryz
set_option maxHeartbeats 1000000 in
theorem c_rLevels {t : Table} {cs : List Value} {a n : Int} {w0 : World} (ht : RTable w0 cs t) (hia : I64 a) (hin : I64 n) : CE Tryz.prog 59 #[.agg cs.toArray, .int .i64 a, .int .i64 n] w0 (fun v w' => ∃ sv, v = .tuple #[sv, .int .i64 (levelsE t a n)] ∧ St w0 w' [rowI sv 74 2 (levelsF t a n).length ((levelsF t a n).flatMap spanC)]) := by
 obtain ⟨cv, rfl, hmean, hsl⟩ := id ht
 obtain ⟨aa, cap, rfl, hcap, hmx, hel⟩ := id hsl
 refine enter func59 rfl ntmps59 rfl ?_
 have hS := St.start w0
 refine seq <| region ?_
 refine sbox hS rfl rfl ?_; clear hS; intro b3 w hS
 refine sv (yAsg rfl) <| sv (yAsg rfl) <| nil <| cwQ <| seq <| region <| sv (yLdBA rfl isAgg24 sizeOf24 (hS.at _) rfl rfl) ?_
 refine scV hS call113 (.cons rfl .nil) (c_rCheck (ht.ext hS.ext)) ?_; clear hS; intro w hS
 refine sv (yMove rfl) <| sv (yExt rfl rfl) <| sv (yExt rfl rfl) <| sv (yAsg rfl) <| sv (yAsg rfl) <| nil <| cwQ <| seq <| seq ?_
 refine region <| sv (yMove rfl) <| sv (yEql rfl rfl) <| nil <| cwQ ?_
 refine cond rfl (fun c18 => ?_) (fun c18 => ?_)
 ·
  simp only [BS, ne_eq] at c18
  have hE := levelsE_good (a := a) (n := n) c18
  refine region <| sv (yMove rfl) <| sv (yMove rfl) ?_
  refine scV hS call114 (.cons rfl (.cons rfl .nil)) c_rsome ?_; clear hS; intro w hS
  refine sv (yAsg rfl) <| nil <| cwQ <| seq <| seq <| region <| sv (yMove rfl) <| sv (yNeq rfl rfl) <| nil ?_
  refine cwQ ?_
  refine cond rfl (fun c23 => ?_) (fun c23 => ?_)
  ·
   simp only [BS, ne_eq] at c23
   refine seq <| region <| sv (yMove rfl) <| sv (yAsg rfl) <| sv (yAsg rfl) <| nil <| cwQ ?_
   refine wp_ret (thenR ?_)
   refine retQ (res2 rfl rfl rfl) ?_
   refine ⟨.slice none 0 0, by rw [hE]; rfl, ?_⟩
   rw [levelsF_bad (by rw [hE]; exact c23)]
   exact (hS.sub (List.nil_sublist _)).nilrow 74 2
  ·
   simp only [BS, ne_eq] at c23
   have hok := tableOk_of c18
   have hz := hE.trans c23
   obtain ⟨_, hz2, hz3⟩ := levelsE_zero hz
   obtain ⟨mm, rfl⟩ := Int.eq_ofNat_of_zero_le hz2.1
   refine skip <| cwQ <| seq <| region <| sv (yAsg rfl) <| nil <| cwQ <| seq <| seq ?_
   refine region <| sv (yAsg rfl) <| nil <| cwQ <| block <| loop (fun f w zz => ∃ (k : Nat) (v : Value), f 1 = .int .i64 a ∧ f 2 = .int .i64 (mm : Int) ∧ f 3 = ptQ b3 ∧ f 10 = v ∧ f 11 = .int .i64 (k : Int) ∧ StX [] w0 w [rowI v 74 2 k ((lvlsL t a k).flatMap spanC), blk b3 [.int .i64 t.mean, .slice aa t.consts.length cap] 24] ∧ (k ≤ mm) ∧ zz = mm - k) _ ⟨_, rfl, 0, _, rfl, rfl, rfl, rfl, rfl, (hS.nilrow 74 2), (Nat.zero_le _), rfl⟩ ?_
   clear hS
   rintro f w _ ⟨k, v, h1, h2, h3, h10, h11, hS, hk, rfl⟩
   refine seq <| seq <| region <| sv (yMove h11) <| sv (yMove h2) <| sv (yLss rfl rfl) <| nil <| cwQ ?_
   refine cond rfl (fun c27 => ?_) (fun c27 => ?_)
   ·
    simp only [BS, ne_eq] at c27
    have hab := hz3 (by omega)
    refine skip <| cwQ <| seq <| block <| region <| sv (yMove h10) <| sv (yLdBA h3 isAgg24 sizeOf24 (hS.at _) rfl rfl) <| sv (yMove h1) <| sv (yMove h11) ?_
    refine sv (yAdd rfl rfl ⟨by omega, by omega⟩) ?_
    refine scV hS call115 (.cons rfl (.cons rfl .nil)) (c_rlevel (tick := a + k) (ht.ext hS.ext) hok ⟨by omega, by omega⟩) ?_; clear hS; intro w hS
    refine sbslice hS underlying86 sizeOf74 rfl zeroValue74 rfl (.cons rfl rfl .nil) rfl ?_; clear hS; intro b36 w hS
    refine sapp (bytes := 16) (size := 2) (v := v) (m := 1) hS rfl rfl underlying86 ti74 rfl rfl rfl rfl (by decide) (blk_cells (hS.at _)) rfl rfl (by omega) (by omega) ?_; clear hS; intro v37 w hS
    refine sv (yAsg rfl) <| nil <| cwQ <| region <| sv (yMove h11) <| sv (yAdd rfl rfl ⟨by omega, by omega⟩) <| sv (yAsg rfl) <| nil ?_
    exact ⟨_, _, rfl, ⟨k + 1, _, h1, h2, h3, rfl, rfl, (by rw [lvlsL_succ, List.flatMap_append]; exact hS.sub (.cons _ lrQ)), (by omega), rfl⟩, by omega⟩
   ·
    simp only [BS, ne_eq] at c27
    obtain rfl : k = mm := by omega
    refine exit <| cwQ <| seq <| region <| sv (yMove h10) <| sv (yAsg rfl) <| sv (yAsg rfl) <| nil <| cwQ ?_
    refine wp_ret <| retQ (res2 rfl rfl rfl) ?_
    refine ⟨v, by rw [hz]; rfl, ?_⟩
    rw [levelsF_good hz, show (lvlsL t a (k : Int).toNat).length = k from lvlsL_len t a k]
    exact hS.sub (.cons_cons _ (List.nil_sublist _))
 ·
  simp only [BS, ne_eq] at c18
  have hE := levelsE_bad (a := a) (n := n) c18
  refine skip <| cwQ <| seq <| seq <| region <| sv (yMove rfl) <| sv (yNeq rfl rfl) <| nil <| cwQ ?_
  refine cond rfl (fun c23 => ?_) (fun c23 => ?_)
  ·
   simp only [BS, ne_eq] at c23
   refine seq <| region <| sv (yMove rfl) <| sv (yAsg rfl) <| sv (yAsg rfl) <| nil <| cwQ ?_
   refine wp_ret (thenR ?_)
   refine retQ (res2 rfl rfl rfl) ?_
   refine ⟨.slice none 0 0, by rw [hE]; rfl, ?_⟩
   rw [levelsF_bad (by rw [hE]; exact c23)]
   exact (hS.sub (List.nil_sublist _)).nilrow 74 2
  ·
   simp only [BS, ne_eq] at c23
   exact absurd c23 c18
set_option maxHeartbeats 2000000 in
theorem c_rCheckS {t : Sgt} {cs : List Value} {w0 : World} (h : RSgt w0 cs t) : CV Tryz.prog 18 #[.agg cs.toArray] w0 (.tuple #[.int .i64 (checkS t).1, .int .i64 (checkS t).2.1, .int .i64 (checkS t).2.2]) := by
 obtain ⟨cv, gv, tv, fv, rfl, hT, hG, hw64, hf64, hk64, hC, hF, hl64, hm64, hr64, hq64⟩ := id h
 obtain ⟨ag, cg, rfl, hgcap, hgmx, hgel⟩ := id hG
 obtain ⟨ak, ck, rfl, hkcap, hkmx, hkel⟩ := id hC
 obtain ⟨ae, ce, rfl, hecap, hemx, heel⟩ := id hF
 refine enter func18 rfl ntmps18 rfl ?_
 have hS := St.start w0
 refine seq <| region ?_
 refine sbox hS rfl rfl ?_; clear hS; intro b1 w hS
 refine sv (yAsg rfl) <| sv (yAsg rfl) <| sv (yAsg rfl) <| nil <| cwQ <| seq <| seq <| region <| sv (fa29_4 rfl) ?_
 refine sv (yLdB rfl isAgg3 (hS.at _) rfl) ?_
 refine scV hS call58 (.cons rfl (.cons rfl (.cons rfl .nil))) c_inS ?_; clear hS; intro w hS
 refine sv (yNot rfl) <| nil <| cwQ ?_
 refine cond rfl (fun c15 => ?_) (fun c15 => ?_)
 ·
  rw [inB_not] at c15
  refine seq <| region <| sv (yAsg rfl) <| sv (yAsg rfl) <| sv (yAsg rfl) <| nil <| cwQ ?_
  have hfin : checkS t = (1, 0, 7) := by unfold checkS; rw [if_pos c15]
  refine wp_ret (thenR ?_)
  exact retV (res3 rfl (fstI hfin) (thd1I hfin) (thd2I hfin)) hS.ext
 ·
  rw [inB_not] at c15
  refine skip <| cwQ <| seq <| region <| sv (fa29_0 rfl) <| sv (yLdBA rfl isAgg24 sizeOf24 (hS.at _) rfl rfl) <| sv (fa29_3 rfl) <| sv (yLdB rfl isAgg3 (hS.at _) rfl) <| sv (fa29_4 rfl) ?_
  refine sv (yLdB rfl isAgg3 (hS.at _) rfl) ?_
  refine scall call59 (.cons rfl (.cons rfl (.cons rfl .nil))) (c_rLevels (hT.ext hS.ext) hf64 hk64) ?_
  rintro _ w ⟨lvv, rfl, hM⟩; replace hS := (hS.call1 hM).sub (.cons _ lrQ); clear hM
  refine sv (yMove rfl) <| sv (yExt rfl rfl) <| sv (yExt rfl rfl) <| sv (yAsg rfl) <| sv (yAsg rfl) <| nil <| cwQ <| seq <| seq ?_
  refine region <| sv (yMove rfl) <| sv (yNeq rfl rfl) <| nil <| cwQ ?_
  refine cond rfl (fun c27 => ?_) (fun c27 => ?_)
  ·
   simp only [BS, ne_eq] at c27
   refine seq <| region <| sv (yMove rfl) <| sv (yAsg rfl) <| sv (yAsg rfl) <| sv (yAsg rfl) <| nil <| cwQ ?_
   have hfin : checkS t = (1, 0, levelsE t.table t.frm t.ticks) := by unfold checkS; rw [if_neg (by rw [c15]; decide), if_pos c27]
   refine wp_ret (thenR ?_)
   exact retV (res3 rfl (fstI hfin) (thd1I hfin) (thd2I hfin)) hS.ext
  ·
   simp only [BS, ne_eq] at c27
   refine skip <| cwQ <| seq <| region <| sv (yLdBA rfl isAgg29 sizeOf29 (hS.at _) rfl rfl) ?_
   refine scV hS call60 (.cons rfl .nil) (c_rgausS (h.ext hS.ext)) ?_; clear hS; intro w hS
   refine sv (yMove rfl) <| sv (yExt rfl rfl) <| sv (yExt rfl rfl) <| sv (yAsg rfl) <| sv (yAsg rfl) <| nil <| cwQ <| seq <| seq ?_
   refine region <| sv (yMove rfl) <| sv (yNeq rfl rfl) <| nil <| cwQ ?_
   refine cond rfl (fun c35 => ?_) (fun c35 => ?_)
   ·
    simp only [BS, ne_eq] at c35
    refine seq <| region <| sv (yMove rfl) <| sv (yMove rfl) <| sv (yAsg rfl) <| sv (yAsg rfl) <| sv (yAsg rfl) <| nil <| cwQ ?_
    have hfin : checkS t = (2, gausE t) := by unfold checkS; rw [if_neg (by rw [c15]; decide), if_neg (fun k => k c27), if_pos c35]
    refine wp_ret (thenR ?_)
    exact retV (res3 rfl (fstI hfin) (thd1I hfin) (thd2I hfin)) hS.ext
   ·
    simp only [BS, ne_eq] at c35
    refine skip <| cwQ <| seq <| seq <| region <| sv (fa29_5 rfl) <| sv (yLdB rfl isAgg26 (hS.at _) rfl) <| sv (yLen rfl underlying26) <| sv (yGtr rfl rfl) ?_
    refine sv (yMove rfl) ?_
    refine sg rfl rfl rfl (fun g => (fa29_6 rfl)) (fun v43 g43 => ?_)
    refine sg rfl rfl rfl (fun g => (yLdB (g43.1 g) isAgg27 (hS.at _) rfl)) (fun v44 g44 => ?_)
    refine sg rfl rfl rfl (fun g => (yLen (g44.1 g) underlying27)) (fun v45 g45 => ?_)
    refine sg rfl rfl rfl (fun g => (yGtr (g45.1 g) rfl)) (fun v46 g46 => ?_)
    refine sv (yOr rfl rfl (fun hB => (g46.1 hB))) <| nil <| cwQ ?_
    refine cond rfl (fun c47 => ?_) (fun c47 => ?_)
    ·
     simp only [BS, ne_eq] at c47
     refine seq <| region <| sv (yAsg rfl) <| sv (yAsg rfl) <| sv (yAsg rfl) <| nil <| cwQ ?_
     have hfin : checkS t = (3, 0, 3) := by unfold checkS; rw [if_neg (by rw [c15]; decide), if_neg (fun k => k c27), if_neg (fun k => k c35), if_pos c47]
     refine wp_ret (thenR ?_)
     exact retV (res3 rfl (fstI hfin) (thd1I hfin) (thd2I hfin)) hS.ext
    ·
     simp only [BS, ne_eq] at c47
     refine skip <| cwQ <| seq <| seq <| region <| sv (fa29_7 rfl) <| sv (yLdB rfl isAgg3 (hS.at _) rfl) ?_
     refine scV hS call58 (.cons rfl (.cons rfl (.cons rfl .nil))) c_inS ?_; clear hS; intro w hS
     refine sv (yNot rfl) <| sv (yMove rfl) ?_
     refine sg rfl rfl rfl (fun g => (fa29_8 rfl)) (fun v53 g53 => ?_)
     refine sg rfl rfl rfl (fun g => (yLdB (g53.1 g) isAgg3 (hS.at _) rfl)) (fun v54 g54 => ?_)
     refine sgc hS rfl rfl rfl call58 (fun g => (.cons (g54.1 g) (.cons rfl (.cons rfl .nil)))) (fun g => c_inS) ?_; clear hS; intro v55 w hS g55
     refine sg rfl rfl rfl (fun g => (yNot (g55.1 g))) (fun v56 g56 => ?_)
     refine sv (yOr rfl rfl (fun hB => (g56.1 hB))) <| sv (yMove rfl) ?_
     refine sg rfl rfl rfl (fun g => (fa29_9 rfl)) (fun v59 g59 => ?_)
     refine sg rfl rfl rfl (fun g => (yLdB (g59.1 g) isAgg3 (hS.at _) rfl)) (fun v60 g60 => ?_)
     refine sgc hS rfl rfl rfl call58 (fun g => (.cons (g60.1 g) (.cons rfl (.cons rfl .nil)))) (fun g => c_inS) ?_; clear hS; intro v61 w hS g61
     refine sg rfl rfl rfl (fun g => (yNot (g61.1 g))) (fun v62 g62 => ?_)
     refine sv (yOr rfl rfl (fun hB => (g62.1 hB))) <| sv (yMove rfl) ?_
     refine sg rfl rfl rfl (fun g => (fa29_10 rfl)) (fun v65 g65 => ?_)
     refine sg rfl rfl rfl (fun g => (yLdB (g65.1 g) isAgg3 (hS.at _) rfl)) (fun v66 g66 => ?_)
     refine sg rfl rfl rfl (fun g => (fa29_5 rfl)) (fun v67 g67 => ?_)
     refine sg rfl rfl rfl (fun g => (yLdB (g67.1 g) isAgg26 (hS.at _) rfl)) (fun v68 g68 => ?_)
     refine sg rfl rfl rfl (fun g => (yLen (g68.1 g) underlying26)) (fun v69 g69 => ?_)
     refine sgc hS rfl rfl rfl call58 (fun g => (.cons (g66.1 g) (.cons rfl (.cons (g69.1 g) .nil)))) (fun g => c_inS) ?_; clear hS; intro v70 w hS g70
     refine sg rfl rfl rfl (fun g => (yNot (g70.1 g))) (fun v71 g71 => ?_)
     refine sv (yOr rfl rfl (fun hB => (g71.1 hB))) <| nil <| cwQ ?_
     refine cond rfl (fun c72 => ?_) (fun c72 => ?_)
     ·
      rw [inB_not, inB_not, inB_not, inB_not] at c72
      refine seq <| region <| sv (yAsg rfl) <| sv (yAsg rfl) <| sv (yAsg rfl) <| nil <| cwQ ?_
      have hfin : checkS t = (3, 0, 7) := by unfold checkS; rw [if_neg (by rw [c15]; decide), if_neg (fun k => k c27), if_neg (fun k => k c35), if_neg (fun k => k.elim c47.1 c47.2), if_pos (show numsS t = true from c72)]
      refine wp_ret (thenR ?_)
      exact retV (res3 rfl (fstI hfin) (thd1I hfin) (thd2I hfin)) hS.ext
     ·
      rw [inB_not, inB_not, inB_not, inB_not] at c72
      refine skip <| cwQ <| seq <| seq <| region <| sv (yAsg rfl) <| nil <| cwQ <| block ?_
      refine loop (fun f w zz => ∃ (k : Nat), f 1 = ptQ b1 ∧ f 8 = .int .i64 (k : Int) ∧ StX [] w0 w [blk b1 (scQ t cv ag ak ae cg ck ce) 29] ∧ (k ≤ t.ctrs.length) ∧ (firstN (cE t.ctrs) t.ctrs.length 0 = firstN (cE t.ctrs) (t.ctrs.length - k) k) ∧ zz = t.ctrs.length - k) _ ⟨_, rfl, 0, rfl, rfl, hS, (Nat.zero_le _), (rfl), rfl⟩ ?_
      clear hS
      rintro f w _ ⟨k, h1, h8, hS, hk, hI, rfl⟩
      refine seq <| seq <| region <| sv (yMove h8) <| sv (fa29_5 h1) <| sv (yLdB rfl isAgg26 (hS.at _) rfl) <| sv (yLen rfl underlying26) <| sv (yLss rfl rfl) <| nil ?_
      refine cwQ ?_
      refine cond rfl (fun c77 => ?_) (fun c77 => ?_)
      ·
       simp only [BS, ne_eq] at c77
       refine skip <| cwQ <| seq <| block <| seq <| region <| sv (yLdBA h1 isAgg29 sizeOf29 (hS.at _) rfl rfl) <| sv (yMove h8) ?_
       refine scV hS call61 (.cons rfl (.cons rfl .nil)) (c_rcentS (h.ext hS.ext) (by omega)) ?_; clear hS; intro w hS
       refine sv (yAsg rfl) <| nil <| cwQ <| seq <| region <| sv (yMove rfl) <| sv (yNeq rfl rfl) <| nil <| cwQ ?_
       refine cond rfl (fun c84 => ?_) (fun c84 => ?_)
       ·
        simp only [BS, ne_eq] at c84
        refine seq <| region <| sv (yMove h8) <| sv (yMove rfl) <| sv (yAsg rfl) <| sv (yAsg rfl) <| sv (yAsg rfl) <| nil <| cwQ ?_
        have hN : firstN (cE t.ctrs) t.ctrs.length 0 = ((k : Int), cE t.ctrs k) := by rw [hI, firstN_at (by omega) c84]
        have hfin : checkS t = (4, (k : Int), cE t.ctrs k) := by unfold checkS; rw [if_neg (by rw [c15]; decide), if_neg (fun k => k c27), if_neg (fun k => k c35), if_neg (fun k => k.elim c47.1 c47.2), if_neg (by rw [show numsS t = false from c72]; decide), if_pos (by rw [hN]; exact c84), hN]
        refine wp_ret (blockR (thenR (thenR (blockR (thenR ?_)))))
        exact retV (res3 rfl (fstI hfin) (thd1I hfin) (thd2I hfin)) hS.ext
       ·
        simp only [BS, ne_eq] at c84
        refine skip <| cwQ <| region <| sv (yMove h8) <| sv (yAdd rfl rfl ⟨by omega, by omega⟩) <| sv (yAsg rfl) <| nil ?_
        exact ⟨_, _, rfl, ⟨k + 1, h1, rfl, hS, (by omega), (by rw [hI]; exact firstN_go (by omega) c84), rfl⟩, by omega⟩
      ·
       simp only [BS, ne_eq] at c77
       obtain rfl : k = t.ctrs.length := by omega
       have hec : (firstN (cE t.ctrs) t.ctrs.length 0).2 = 0 := by rw [hI, Nat.sub_self]; rfl
       clear hI
       refine exit <| cwQ <| seq <| seq <| region <| sv (yAsg rfl) <| nil <| cwQ <| block ?_
       refine loop (fun f w zz => ∃ (k : Nat), f 1 = ptQ b1 ∧ f 10 = .int .i64 (k : Int) ∧ StX [] w0 w [blk b1 (scQ t cv ag ak ae cg ck ce) 29] ∧ (k ≤ t.fcs.length) ∧ (firstN (fE t.ctrs.length t.fcs) t.fcs.length 0 = firstN (fE t.ctrs.length t.fcs) (t.fcs.length - k) k) ∧ zz = t.fcs.length - k) _ ⟨_, rfl, 0, h1, rfl, hS, (Nat.zero_le _), (rfl), rfl⟩ ?_
       clear hS
       rintro f w _ ⟨k, h1, h10, hS, hk, hI, rfl⟩
       refine seq <| seq <| region <| sv (yMove h10) <| sv (fa29_6 h1) <| sv (yLdB rfl isAgg27 (hS.at _) rfl) <| sv (yLen rfl underlying27) <| sv (yLss rfl rfl) <| nil ?_
       refine cwQ ?_
       refine cond rfl (fun c91 => ?_) (fun c91 => ?_)
       ·
        simp only [BS, ne_eq] at c91
        refine skip <| cwQ <| seq <| block <| seq <| region <| sv (yLdBA h1 isAgg29 sizeOf29 (hS.at _) rfl rfl) <| sv (yMove h10) ?_
        refine scV hS call62 (.cons rfl (.cons rfl .nil)) (c_rforeS (h.ext hS.ext) (by omega)) ?_; clear hS; intro w hS
        refine sv (yAsg rfl) <| nil <| cwQ <| seq <| region <| sv (yMove rfl) <| sv (yNeq rfl rfl) <| nil <| cwQ ?_
        refine cond rfl (fun c98 => ?_) (fun c98 => ?_)
        ·
         simp only [BS, ne_eq] at c98
         refine seq <| region <| sv (yMove h10) <| sv (yMove rfl) <| sv (yAsg rfl) <| sv (yAsg rfl) <| sv (yAsg rfl) <| nil <| cwQ ?_
         have hN : firstN (fE t.ctrs.length t.fcs) t.fcs.length 0 = ((k : Int), fE t.ctrs.length t.fcs k) := by rw [hI, firstN_at (by omega) c98]
         have hfin : checkS t = (5, (k : Int), fE t.ctrs.length t.fcs k) := by unfold checkS; rw [if_neg (by rw [c15]; decide), if_neg (fun k => k c27), if_neg (fun k => k c35), if_neg (fun k => k.elim c47.1 c47.2), if_neg (by rw [show numsS t = false from c72]; decide), if_neg (fun k => k hec), if_pos (by rw [hN]; exact c98), hN]
         refine wp_ret (blockR (thenR (thenR (blockR (thenR ?_)))))
         exact retV (res3 rfl (fstI hfin) (thd1I hfin) (thd2I hfin)) hS.ext
        ·
         simp only [BS, ne_eq] at c98
         refine skip <| cwQ <| region <| sv (yMove h10) <| sv (yAdd rfl rfl ⟨by omega, by omega⟩) <| sv (yAsg rfl) <| nil ?_
         exact ⟨_, _, rfl, ⟨k + 1, h1, rfl, hS, (by omega), (by rw [hI]; exact firstN_go (by omega) c98), rfl⟩, by omega⟩
       ·
        simp only [BS, ne_eq] at c91
        obtain rfl : k = t.fcs.length := by omega
        have hef : (firstN (fE t.ctrs.length t.fcs) t.fcs.length 0).2 = 0 := by rw [hI, Nat.sub_self]; rfl
        refine exit <| cwQ <| seq <| region <| sv (yAsg rfl) <| sv (yAsg rfl) <| sv (yAsg rfl) <| nil <| cwQ ?_
        have hfin : checkS t = (0, 0, 0) := by unfold checkS; rw [if_neg (by rw [c15]; decide), if_neg (fun k => k c27), if_neg (fun k => k c35), if_neg (fun k => k.elim c47.1 c47.2), if_neg (by rw [show numsS t = false from c72]; decide), if_neg (fun k => k hec), if_neg (fun k => k hef)]
        refine wp_ret ?_
        exact retV (res3 rfl (fstI hfin) (thd1I hfin) (thd2I hfin)) hS.ext
theorem c_ask {t : Sgt} {cs : List Value} {now : Int} {w0 : World} (h : RSgt w0 cs t) : CV Tryz.prog 65 #[.agg cs.toArray, .int .i64 now] w0 (.int .i64 (askE t now)) := by
 obtain ⟨cv, gv, tv, fv, rfl, hT, hG, hw64, hf64, hk64, hC, hF, hl64, hm64, hr64, hq64⟩ := id h
 obtain ⟨ag, cg, rfl, hgcap, hgmx, hgel⟩ := id hG
 obtain ⟨ak, ck, rfl, hkcap, hkmx, hkel⟩ := id hC
 obtain ⟨ae, ce, rfl, hecap, hemx, heel⟩ := id hF
 refine enter func65 rfl ntmps65 rfl ?_
 have hS := St.start w0
 refine seq <| region ?_
 refine sbox hS rfl rfl ?_; clear hS; intro b2 w hS
 refine sv (yAsg rfl) <| nil <| cwQ <| seq <| region <| sv (yLdBA rfl isAgg29 sizeOf29 (hS.at _) rfl rfl) ?_
 refine scV hS call18 (.cons rfl .nil) (c_rCheckS (h.ext hS.ext)) ?_; clear hS; intro w hS
 refine sv (yMove rfl) <| sv (yExt rfl rfl) <| sv (yExt rfl rfl) <| sv (yExt rfl rfl) <| sv (yAsg rfl) <| sv (yAsg rfl) <| sv (yAsg rfl) <| nil <| cwQ ?_
 refine seq <| seq <| region <| sv (yMove rfl) <| sv (yEql rfl rfl) <| sv (yMove rfl) ?_
 refine sg rfl rfl rfl (fun g => (yMove rfl)) (fun v17 g17 => ?_)
 refine sgc hS rfl rfl rfl call80 (fun g => (.cons (g17.1 g) .nil)) (fun g => c_rtickS) ?_; clear hS; intro v18 w hS g18
 refine sg rfl rfl rfl (fun g => (yNot (g18.1 g))) (fun v19 g19 => ?_)
 refine sv (yAnd rfl (fun hB => (g19.1 hB)) rfl) <| nil <| cwQ ?_
 refine cond rfl (fun c20 => ?_) (fun c20 => ?_)
 ·
  refine region <| sv (yAsg rfl) <| nil <| cwQ <| seq <| region <| sv (yMove rfl) <| sv (yAsg rfl) <| nil ?_
  refine cwQ <| wp_ret ?_
  exact retV (res1 rfl (eqI (ask_seven c20))) hS.ext
 ·
  refine skip <| cwQ <| seq <| region <| sv (yMove rfl) <| sv (yAsg rfl) <| nil <| cwQ <| wp_ret ?_
  exact retV (res1 rfl (eqI (ask_same c20))) hS.ext
end Go.Proofs.YtgidbailiababaaGreatDoor

/- part Sy3 -/
namespace Go.Proofs.YtgidbailiababaaGreatDoor
open Go Bx Go.Proofs.Tryz
set_option maxHeartbeats 2000000 in
theorem c_rcurrent {t : Sgt} {cs : List Value} {now : Int} {w0 : World} (h : RSgt w0 cs t) (hok : SgOk t) (hnow : Bd now 0 200000) : CE Tryz.prog 85 #[.agg cs.toArray, .int .i64 now] w0 (fun u w' => St w0 w' [rowI u 3 1 t.ctrs.length ((curS t now).flatMap Bx.encI)]) := by
 obtain ⟨cv, gv, tv, fv, rfl, hT, hG, hw64, hf64, hk64, hC, hF, hl64, hm64, hr64, hq64⟩ := id h
 obtain ⟨ag, cg, rfl, hgcap, hgmx, hgel⟩ := id hG
 obtain ⟨ak, ck, rfl, hkcap, hkmx, hkel⟩ := id hC
 obtain ⟨ae, ce, rfl, hecap, hemx, heel⟩ := id hF
 have hnc := hok.nc
 have hnf := hok.nf
 refine enter func85 rfl ntmps85 rfl ?_
 have hS := St.start w0
 refine seq <| region ?_
 refine sbox hS rfl rfl ?_; clear hS; intro b2 w hS
 refine sv (yAsg rfl) <| nil <| cwQ <| seq <| region <| sv (fa29_5 rfl) <| sv (yLdB rfl isAgg26 (hS.at _) rfl) <| sv (yLen rfl underlying26) ?_
 refine smake (bytes := 8) (zs := [.int .i64 0]) (m := t.ctrs.length) hS rfl rfl underlying39 ti3 rfl rfl rfl rfl rfl (by omega) (by omega) ?_; clear hS; intro b12 w hS
 replace hS := hS.toRow 1 t.ctrs.length (by simp) (by omega)
 rw [curL_0 (now := now)] at hS
 refine sv (yAsg rfl) <| nil <| cwQ <| seq <| seq <| region <| sv (yAsg rfl) <| nil <| cwQ ?_
 refine block <| loop (fun f w zz => ∃ (k : Nat), f 1 = .int .i64 now ∧ f 2 = ptQ b2 ∧ f 5 = .slice (some ⟨b12, 0, none⟩) t.ctrs.length t.ctrs.length ∧ f 6 = .int .i64 (k : Int) ∧ StX [] w0 w [rowI (.slice (some ⟨b12, 0, none⟩) t.ctrs.length t.ctrs.length) 3 1 t.ctrs.length ((curL t now k 0).flatMap Bx.encI), blk b2 (scQ t cv ag ak ae cg ck ce) 29] ∧ (k ≤ t.ctrs.length) ∧ zz = t.ctrs.length - k) _ ⟨_, rfl, 0, rfl, rfl, rfl, rfl, hS, (Nat.zero_le _), rfl⟩ ?_
 clear hS
 rintro f w _ ⟨k, h1, h2, h5, h6, hS, hk, rfl⟩
 refine seq <| seq <| region <| sv (yMove h6) <| sv (yMove h5) <| sv (yLen rfl underlying39) <| sv (yLss rfl rfl) <| nil <| cwQ ?_
 refine cond rfl (fun c16 => ?_) (fun c16 => ?_)
 ·
  simp only [BS, ne_eq] at c16
  have hkl : k < t.ctrs.length := by omega
  obtain ⟨bq, oq, cq, haq, -, hcq, hRq, -⟩ := sl_at hC (ctr_get hkl)
  obtain ⟨rfl, hnm, -⟩ := hRq
  obtain ⟨q1, q2, q3⟩ := hok.ctrs hkl
  refine skip <| cwQ <| seq <| block <| seq <| region <| sv (yMove h5) <| sv (yMove h6) <| sv (Y.to (yIxQ rfl rfl rfl runUnderlying39 sizeOf3) (congrArg (fun q => Value.pointer (some ⟨b12, q, none⟩)) (show 0 + (k : Int).toNat * 1 = k * 1 by omega))) ?_
  refine srst (m := t.ctrs.length) (cap := t.ctrs.length) (sz := 1) (vs := [.int .i64 (-1)]) hS rfl rfl sizeOf3 rfl rfl (by omega) rfl ?_; clear hS; intro w hS
  rw [curL_store hkl] at hS
  refine nil <| cwQ <| seq <| region <| sv (yAsg rfl) <| nil <| cwQ <| block <| loop (fun f w zz => ∃ (j : Nat), f 1 = .int .i64 now ∧ f 2 = ptQ b2 ∧ f 5 = .slice (some ⟨b12, 0, none⟩) t.ctrs.length t.ctrs.length ∧ f 6 = .int .i64 (k : Int) ∧ f 7 = .int .i64 (j : Int) ∧ StX [] w0 w [rowI (.slice (some ⟨b12, 0, none⟩) t.ctrs.length t.ctrs.length) 3 1 t.ctrs.length ((curL t now k (curK t now k j)).flatMap Bx.encI), blk b2 (scQ t cv ag ak ae cg ck ce) 29] ∧ (j ≤ t.fcs.length) ∧ zz = t.fcs.length - j) _ ⟨_, rfl, 0, h1, h2, h5, h6, rfl, hS, (Nat.zero_le _), rfl⟩ ?_
  clear hS
  rintro f w _ ⟨j, h1, h2, h5, h6, h7, hS, hj, rfl⟩
  refine seq <| seq <| region <| sv (yMove h7) <| sv (fa29_6 h2) <| sv (yLdB rfl isAgg27 (hS.at _) rfl) <| sv (yLen rfl underlying27) <| sv (yLss rfl rfl) <| nil ?_
  refine cwQ ?_
  refine cond rfl (fun c26 => ?_) (fun c26 => ?_)
  ·
   simp only [BS, ne_eq] at c26
   have hjl : j < t.fcs.length := by omega
   obtain ⟨bf, of, cf, haf, hlf, hcf, hRf, -⟩ := sl_at hF (fct_get hjl)
   obtain ⟨mv, rfl, hf1, hf2, hf3, hMm⟩ := hRf
   obtain ⟨am, cm, rfl, -⟩ := id hMm
   obtain ⟨fo1, fo2, fo3, -⟩ := hok.fcts hjl
   have hcb := curK_bd t now k j
   obtain ⟨bl, ol, hlast⟩ := fct_if hF (curK t now k j) (by omega)
   refine skip <| cwQ <| seq <| block <| seq <| region <| sv (fa29_6 h2) <| sv (yLdB rfl isAgg27 (hS.at _) rfl) <| sv (yMove h7) ?_
   refine sv (yIxQ rfl haf rfl runUnderlying27 sizeOf61) <| sv (yLdA rfl isAgg61 sizeOf61 (hcf.ext hS.ext) rfl) ?_
   refine salloc hS zeroValue61 rfl ?_; clear hS; intro b8 w hS
   refine sst hS rfl rfl sizeOf61 rfl rfl rfl rfl ?_; clear hS; intro w hS
   refine nil <| cwQ <| seq <| region_draw mixed (by kernel_rfl) hS <| qv (fun w hS => (fa61_0 rfl)) <| qv (fun w hS => (yLdB rfl isAgg3 (hS.at _) rfl)) <| qv (fun w hS => (yMove h6)) <| qv (fun w hS => (yEql rfl rfl)) <| qv (fun w hS => (yMove rfl)) ?_
   refine qg rfl rfl rfl (fun g w hS => (fa61_1 rfl)) (fun v39 g39 => ?_)
   refine qg rfl rfl rfl (fun g w hS => (yLdB (g39.1 g) isAgg3 (hS.at _) rfl)) (fun v40 g40 => ?_)
   refine qg rfl rfl rfl (fun g w hS => (fa29_5 h2)) (fun v41 g41 => ?_)
   refine qg rfl rfl rfl (fun g w hS => (yLdB (g41.1 g) isAgg26 (hS.at _) rfl)) (fun v42 g42 => ?_)
   refine qg rfl rfl rfl (fun g w hS => (yMove h6)) (fun v43 g43 => ?_)
   refine qg rfl rfl rfl (fun g w hS => (yIxQ (g42.1 g) haq (g43.1 g) runUnderlying26 sizeOf57)) (fun v44 g44 => ?_)
   refine qg rfl rfl rfl (fun g w hS => (fa57_1 (g44.1 g))) (fun v45 g45 => ?_)
   refine qg rfl rfl rfl (fun g w hS => (yLd (g45.1 g) isAgg3 ((hcq.ext hS.ext).at (j := 1) rfl))) (fun v46 g46 => ?_)
   refine qg rfl rfl rfl (fun g w hS => (yAdd (g40.1 g) (g46.1 g) ⟨by omega, by omega⟩)) (fun v47 g47 => ?_)
   refine qg rfl rfl rfl (fun g w hS => (yMove h1)) (fun v48 g48 => ?_)
   refine qg rfl rfl rfl (fun g w hS => (yLeq (g47.1 g) (g48.1 g))) (fun v49 g49 => ?_)
   refine qv (fun w hS => (yAnd rfl (fun hB => (g49.1 hB)) rfl)) <| qv (fun w hS => (yMove rfl)) ?_
   refine qg rfl rfl rfl (fun g w hS => (yMove h5)) (fun v52 g52 => ?_)
   refine qg rfl rfl rfl (fun g w hS => (yMove h6)) (fun v53 g53 => ?_)
   refine qg rfl rfl rfl (fun g w hS => (Y.to (yIxQ (g52.1 g) rfl (g53.1 g) runUnderlying39 sizeOf3) (congrArg (fun q => Value.pointer (some ⟨b12, q, none⟩)) (show 0 + (k : Int).toNat * 1 = k * 1 by omega)))) (fun v54 g54 => ?_)
   refine qg rfl rfl rfl (fun g w hS => (yLd (g54.1 g) isAgg3 (flat_cells0 (enc := Bx.encI) Bx.encI_len (row_at (hS.row (.slice (some ⟨b12, 0, none⟩) t.ctrs.length t.ctrs.length)) rfl (by omega)) (curL_at hkl)).one)) (fun v55 g55 => ?_)
   refine qg rfl rfl rfl (fun g w hS => (yLss (g55.1 g) rfl)) (fun v56 g56 => ?_)
   refine qg rfl rfl rfl (fun g w hS => (yMove (g56.1 g))) (fun v57 g57 => ?_)
   refine qgg rfl rfl g57 (fun g w hS => (fa61_1 rfl)) (fun v58 g58 => ?_)
   refine qgg rfl rfl g57 (fun g w hS => (yLdB (g58.1 g) isAgg3 (hS.at _) rfl)) (fun v59 g59 => ?_)
   refine qgg rfl rfl g57 (fun g w hS => (fa29_6 h2)) (fun v60 g60 => ?_)
   refine qgg rfl rfl g57 (fun g w hS => (yLdB (g60.1 g) isAgg27 (hS.at _) rfl)) (fun v61 g61 => ?_)
   refine qgg rfl rfl g57 (fun g w hS => (yMove h5)) (fun v62 g62 => ?_)
   refine qgg rfl rfl g57 (fun g w hS => (yMove h6)) (fun v63 g63 => ?_)
   refine qgg rfl rfl g57 (fun g w hS => (Y.to (yIxQ (g62.1 g) rfl (g63.1 g) runUnderlying39 sizeOf3) (congrArg (fun q => Value.pointer (some ⟨b12, q, none⟩)) (show 0 + (k : Int).toNat * 1 = k * 1 by omega)))) (fun v64 g64 => ?_)
   refine qgg rfl rfl g57 (fun g w hS => (yLd (g64.1 g) isAgg3 (flat_cells0 (enc := Bx.encI) Bx.encI_len (row_at (hS.row (.slice (some ⟨b12, 0, none⟩) t.ctrs.length t.ctrs.length)) rfl (by omega)) (curL_at hkl)).one)) (fun v65 g65 => ?_)
   refine qgg rfl rfl g57 (fun g w hS => (yIxa (g61.1 g) (hlast (by have := of_decide_eq_false g.2; omega)).1 (g65.1 g) runUnderlying27 sizeOf61 (by have := of_decide_eq_false g.2; omega) (by have := of_decide_eq_false g.2; omega))) (fun v66 g66 => ?_)
   refine qgg rfl rfl g57 (fun g w hS => (fa61_1 (g66.1 g))) (fun v67 g67 => ?_)
   refine qgg rfl rfl g57 (fun g w hS => (yLd (g67.1 g) isAgg3 ((hlast (by have := of_decide_eq_false g.2; omega)).2 |> hS.ext.cell))) (fun v68 g68 => ?_)
   refine qgg rfl rfl g57 (fun g w hS => (yGtr (g59.1 g) (g68.1 g))) (fun v69 g69 => ?_)
   refine qg rfl rfl rfl (fun g w hS => (yOr (g57.1 g) rfl (fun hB => (g69.1 ⟨g, hB⟩)))) (fun v70 g70 => ?_)
   refine qv (fun w hS => (yAnd rfl (fun hB => (g70.1 hB)) rfl)) ?_
   clear hS; refine qnil (fun w hS => ?_)
   refine cwQ ?_
   refine cond rfl (fun c71 => ?_) (fun c71 => ?_)
   ·
    simp only [BS, ne_eq] at c71
    refine region <| sv (yMove h5) <| sv (yMove h6) <| sv (yMove h7) <| sv (Y.to (yIxQ rfl rfl rfl runUnderlying39 sizeOf3) (congrArg (fun q => Value.pointer (some ⟨b12, q, none⟩)) (show 0 + (k : Int).toNat * 1 = k * 1 by omega))) ?_
    refine srst (m := t.ctrs.length) (cap := t.ctrs.length) (sz := 1) (vs := [.int .i64 (j : Int)]) hS rfl rfl sizeOf3 rfl rfl (by omega) rfl ?_; clear hS; intro w hS
    rw [curL_store hkl] at hS
    refine nil <| cwQ <| region <| sv (yMove h7) <| sv (yAdd rfl rfl ⟨by omega, by omega⟩) <| sv (yAsg rfl) <| nil ?_
    exact ⟨_, _, rfl, ⟨j + 1, h1, h2, h5, h6, rfl, (by rw [curK_succ]; unfold curStep; rw [if_pos ⟨c71.1.1, by have := c71.1.2; omega, c71.2⟩]; exact hS.sub (.cons _ lrQ)), (by omega), rfl⟩, by omega⟩
   ·
    simp only [BS, ne_eq] at c71
    refine skip <| cwQ <| region <| sv (yMove h7) <| sv (yAdd rfl rfl ⟨by omega, by omega⟩) <| sv (yAsg rfl) <| nil ?_
    exact ⟨_, _, rfl, ⟨j + 1, h1, h2, h5, h6, rfl, (by rw [curK_succ]; unfold curStep; rw [if_neg (fun hh => by omega)]; exact hS.sub (.cons _ lrQ)), (by omega), rfl⟩, by omega⟩
  ·
   simp only [BS, ne_eq] at c26
   have hjj : j = t.fcs.length := by omega
   rw [hjj] at hS
   refine exit <| cwQ <| region <| sv (yMove h6) <| sv (yAdd rfl rfl ⟨by omega, by omega⟩) <| sv (yAsg rfl) <| nil ?_
   exact ⟨_, _, rfl, ⟨k + 1, h1, h2, h5, rfl, (by rw [← curL_next]; exact hS), (by omega), rfl⟩, by omega⟩
 ·
  simp only [BS, ne_eq] at c16
  obtain rfl : k = t.ctrs.length := by omega
  refine exit <| cwQ <| seq <| region <| sv (yMove h5) <| sv (yAsg rfl) <| nil <| cwQ <| wp_ret ?_
  refine retQ (res1 rfl rfl) ?_
  rw [curL_all] at hS
  exact hS.sub (.cons_cons _ (List.nil_sublist _))
end Go.Proofs.YtgidbailiababaaGreatDoor

/- part Sy4 -/
namespace Go.Proofs.YtgidbailiababaaGreatDoor
open Go Bx Go.Proofs.Tryz
set_option maxHeartbeats 1000000 in
theorem c_rwrong {t : Sgt} {cs : List Value} {fi : Nat} {tick : Int} {w0 : World} (h : RSgt w0 cs t) (hok : SgOk t) (hfi : fi < t.fcs.length) (htk : Bd tick 0 200000) : CV Tryz.prog 91 #[.agg cs.toArray, .int .i64 (fi : Int), .int .i64 tick] w0 (.int .i64 (wrongS t (fct t.fcs fi) tick)) := by
 obtain ⟨cv, gv, tv, fv, rfl, hT, hG, hw64, hf64, hk64, hC, hF, hl64, hm64, hr64, hq64⟩ := id h
 obtain ⟨ag, cg, rfl, hgcap, hgmx, hgel⟩ := id hG
 obtain ⟨ak, ck, rfl, hkcap, hkmx, hkel⟩ := id hC
 obtain ⟨ae, ce, rfl, hecap, hemx, heel⟩ := id hF
 have hnc := hok.nc
 have hfo := hok.fcts hfi
 obtain ⟨bf, of, cf, haf, hlf, hcf, hRf, -⟩ := sl_at hF (fct_get hfi)
 obtain ⟨mv, rfl, hf1, hf2, hf3, hMm⟩ := hRf
 obtain ⟨am, cm, rfl, -⟩ := id hMm
 obtain ⟨fo1, fo2, fo3, -⟩ := id hfo
 obtain ⟨bq, oq, cq, haq, -, hcq, hRq, -⟩ := sl_at hC (ctr_get (l := t.ctrs) (i := (fct t.fcs fi).centre.toNat) (by omega))
 obtain ⟨rfl, hnm, -⟩ := hRq
 obtain ⟨q1, q2, q3⟩ := hok.ctrs (i := (fct t.fcs fi).centre.toNat) (by omega)
 have hw := wrong_bd hok hfo htk
 refine enter func91 rfl ntmps91 rfl ?_
 have hS := St.start w0
 refine seq <| region ?_
 refine sbox hS rfl rfl ?_; clear hS; intro b3 w hS
 refine sv (yAsg rfl) <| nil <| cwQ <| seq <| region <| sv (fa29_6 rfl) <| sv (yLdB rfl isAgg27 (hS.at _) rfl) <| sv (yMove rfl) <| sv (yIxQ rfl haf rfl runUnderlying27 sizeOf61) ?_
 refine sv (yLdA rfl isAgg61 sizeOf61 (hcf.ext hS.ext) rfl) ?_
 refine salloc hS zeroValue61 rfl ?_; clear hS; intro b7 w hS
 refine sst hS rfl rfl sizeOf61 rfl rfl rfl rfl ?_; clear hS; intro w hS
 refine nil <| cwQ <| seq <| region <| sv (fa29_5 rfl) <| sv (yLdB rfl isAgg26 (hS.at _) rfl) <| sv (fa61_0 rfl) <| sv (yLdB rfl isAgg3 (hS.at _) rfl) <| sv (yIxQ rfl haq rfl runUnderlying26 sizeOf57) ?_
 refine sv (yLdA rfl isAgg57 sizeOf57 (hcq.ext hS.ext) rfl) ?_
 refine salloc hS zeroValue57 rfl ?_; clear hS; intro b8 w hS
 refine sst hS rfl rfl sizeOf57 rfl rfl rfl rfl ?_; clear hS; intro w hS
 refine nil <| cwQ <| seq <| region <| sv (fa57_2 rfl) <| sv (yLdB rfl isAgg3 (hS.at _) rfl) <| sv (fa57_3 rfl) <| sv (yLdB rfl isAgg3 (hS.at _) rfl) <| sv (yMove rfl) ?_
 refine sv (fa61_1 rfl) <| sv (yLdB rfl isAgg3 (hS.at _) rfl) <| sv (ySub rfl rfl ⟨by omega, by omega⟩) <| sv (yMax rfl rfl) <| sv (yAdd rfl rfl ⟨by omega, by omega⟩) <| sv (ySub rfl rfl ⟨by omega, by omega⟩) <| sv (Y.to (yQuoP rfl rfl ⟨by omega, by omega⟩ (by omega)) (congrArg (Value.int .i64) (hour_eq (fct t.fcs fi) tick))) <| sv (yMul rfl rfl ⟨by omega, by omega⟩) <| sv (yAdd rfl rfl ⟨by omega, by omega⟩) ?_
 refine sv (yAsg rfl) <| nil <| cwQ <| wp_ret ?_
 exact retV (res1 rfl rfl) hS.ext
set_option maxHeartbeats 2000000 in
theorem c_rtube {t : Sgt} {cs : List Value} {fi mi : Nat} {w0 : World} (h : RSgt w0 cs t) (hok : SgOk t) (hfi : fi < t.fcs.length) (hmi : mi < (fct t.fcs fi).members.length) : CE Tryz.prog 87 #[.agg cs.toArray, .int .i64 (fi : Int), .int .i64 (mi : Int)] w0 (fun u w' => St w0 w' [rowI u 74 2 t.ticks.toNat ((tubeS t (fct t.fcs fi) (mem (fct t.fcs fi) mi)).flatMap spanC)]) := by
 obtain ⟨cv, gv, tv, fv, rfl, hT, hG, hw64, hf64, hk64, hC, hF, hl64, hm64, hr64, hq64⟩ := id h
 obtain ⟨ag, cg, rfl, hgcap, hgmx, hgel⟩ := id hG
 obtain ⟨ak, ck, rfl, hkcap, hkmx, hkel⟩ := id hC
 obtain ⟨ae, ce, rfl, hecap, hemx, heel⟩ := id hF
 have hfo := hok.fcts hfi
 have htk := hok.tk
 have htf := hok.levs.2
 have hfr := hfo.frm
 obtain ⟨bf, of, cf, haf, hlf, hcf, hRf, -⟩ := sl_at hF (fct_get hfi)
 obtain ⟨mv, rfl, hf1, hf2, hf3, hMm⟩ := hRf
 obtain ⟨am, cm, rfl, -⟩ := id hMm
 obtain ⟨bm, om, csm, ham, -, hcm, hRm, -⟩ := sl_at hMm (mem_at hmi)
 obtain ⟨vm, rfl, hvm⟩ := hRm
 obtain ⟨an, cn9, rfl, hncap, hnmx, -⟩ := id hvm
 have hlen := hfo.len _ (mem_in hmi)
 have htl := tubeS_len t (fct t.fcs fi) (mem (fct t.fcs fi) mi)
 refine enter func87 rfl ntmps87 rfl ?_
 have hS := St.start w0
 refine seq <| region ?_
 refine sbox hS rfl rfl ?_; clear hS; intro b3 w hS
 refine sv (yAsg rfl) <| nil <| cwQ <| seq <| region <| sv (fa29_0 rfl) <| sv (yLdBA rfl isAgg24 sizeOf24 (hS.at _) rfl rfl) <| sv (fa29_3 rfl) <| sv (yLdB rfl isAgg3 (hS.at _) rfl) ?_
 refine sv (fa29_4 rfl) <| sv (yLdB rfl isAgg3 (hS.at _) rfl) ?_
 refine scall call59 (.cons rfl (.cons rfl (.cons rfl .nil))) (c_rLevels (hT.ext hS.ext) hf64 hk64) ?_
 rintro _ w ⟨tv, rfl, hM⟩; replace hS := hS.call1 hM; clear hM
 rw [levelsF_good hok.lev, show lvlsL t.table t.frm t.ticks.toNat = tidesS t from rfl, tidesS_len] at hS
 obtain ⟨att, ctt, rfl⟩ := row_shape (hS.row tv)
 refine sv (yMove rfl) <| sv (yExt rfl rfl) <| sv (yExt rfl rfl) <| sv (yAsg rfl) <| sv (yAsg rfl) <| nil <| cwQ <| seq <| region ?_
 refine sv (fa29_6 rfl) <| sv (yLdB rfl isAgg27 (hS.at _) rfl) <| sv (yMove rfl) <| sv (yIxQ rfl haf rfl runUnderlying27 sizeOf61) <| sv (yLdA rfl isAgg61 sizeOf61 (hcf.ext hS.ext) rfl) ?_
 refine salloc hS zeroValue61 rfl ?_; clear hS; intro b9 w hS
 refine sst hS rfl rfl sizeOf61 rfl rfl rfl rfl ?_; clear hS; intro w hS
 refine nil <| cwQ <| seq <| region <| sv (yAsg rfl) <| nil <| cwQ <| seq <| seq ?_
 refine region <| sv (yAsg rfl) <| nil <| cwQ <| block <| loop (fun f w zz => ∃ (k : Nat) (ov : Value), f 1 = .int .i64 (fi : Int) ∧ f 2 = .int .i64 (mi : Int) ∧ f 3 = ptQ b3 ∧ f 7 = .slice att t.ticks.toNat ctt ∧ f 9 = ptQ b9 ∧ f 10 = ov ∧ f 11 = .int .i64 (k : Int) ∧ StX [] w0 w [rowI (ov) 74 2 k (((tubeS t (fct t.fcs fi) (mem (fct t.fcs fi) mi)).take k).flatMap spanC), blk b9 [.int .i64 (fct t.fcs fi).centre, .int .i64 (fct t.fcs fi).issued, .int .i64 (fct t.fcs fi).frm, .slice am (fct t.fcs fi).members.length cm] 61, rowI (.slice att t.ticks.toNat ctt) 74 2 t.ticks.toNat ((tidesS t).flatMap spanC), blk b3 (scQ t cv ag ak ae cg ck ce) 29] ∧ (k ≤ t.ticks.toNat) ∧ zz = t.ticks.toNat - k) _ ⟨_, rfl, 0, _, rfl, rfl, rfl, rfl, rfl, rfl, rfl, (hS.nilrow 74 2), (Nat.zero_le _), rfl⟩ ?_
 clear hS
 rintro f w _ ⟨k, ov, h1, h2, h3, h7, h9, h10, h11, hS, hk, rfl⟩
 refine seq <| seq <| region <| sv (yMove h11) <| sv (fa29_4 h3) <| sv (yLdB rfl isAgg3 (hS.at _) rfl) <| sv (yLss rfl rfl) <| nil <| cwQ ?_
 refine cond rfl (fun c33 => ?_) (fun c33 => ?_)
 ·
  simp only [BS, ne_eq] at c33
  have hkl : k < t.ticks.toNat := by omega
  obtain ⟨gt, rfl, -⟩ := row_get (hS.row (.slice att t.ticks.toNat ctt)) (by omega)
  refine skip <| cwQ <| seq <| block <| seq <| region <| sv (fa29_3 h3) <| sv (yLdB rfl isAgg3 (hS.at _) rfl) <| sv (yMove h11) ?_
  refine sv (yAdd rfl rfl ⟨by omega, by omega⟩) <| sv (fa61_2 h9) <| sv (yLdB rfl isAgg3 (hS.at _) rfl) <| sv (ySub rfl rfl ⟨by omega, by omega⟩) <| sv (yAsg rfl) <| nil <| cwQ <| seq <| seq ?_
  refine region <| sv (yMove rfl) <| sv (fa61_3 h9) <| sv (yLdB rfl isAgg59 (hS.at _) rfl) <| sv (yMove h2) <| sv (yIxQ rfl ham rfl runUnderlying59 sizeOf39) <| sv (yLd rfl isAgg39 (hcm.ext hS.ext).one) <| sv (yLen rfl underlying39) <| sv (ySub rfl rfl ⟨by omega, by omega⟩) ?_
  refine scV hS call58 (.cons rfl (.cons rfl (.cons rfl .nil))) c_inS ?_; clear hS; intro w hS
  refine sv (yNot rfl) <| nil <| cwQ ?_
  refine cond rfl (fun c52 => ?_) (fun c52 => ?_)
  ·
   rw [inB_not] at c52
   have hat := tub_out (t := t) c52
   refine seq <| region <| sv (yMove h10) <| sv (yBuild zeroValue74 rfl pl74 (.cons rfl rfl (.cons rfl rfl .nil)) rfl) ?_
   refine sbslice hS underlying86 sizeOf74 rfl zeroValue74 rfl (.cons rfl rfl .nil) rfl ?_; clear hS; intro b55 w hS
   refine sapp (bytes := 16) (size := 2) (v := ov) (m := 1) hS rfl rfl underlying86 ti74 rfl rfl rfl rfl (by decide) (blk_cells (hS.at _)) rfl rfl (by omega) (by omega) ?_; clear hS; intro v56 w hS
   refine sv (yAsg rfl) <| nil <| cwQ <| exit <| cwQ <| region <| sv (yMove h11) <| sv (yAdd rfl rfl ⟨by omega, by omega⟩) <| sv (yAsg rfl) ?_
   refine nil ?_
   exact ⟨_, _, rfl, ⟨k + 1, _, h1, h2, h3, h7, h9, rfl, rfl, (by rw [take_snoc (tubeS_get (show k < t.ticks.toNat by omega)), List.flatMap_append, hat]; exact sbQ hS), (by omega), rfl⟩, by omega⟩
  ·
   rw [inB_not] at c52
   have hat := tub_in (t := t) c52
   obtain ⟨z1, z2⟩ := outB_false.1 c52
   have hgl : (t.frm + (k : Int) - (fct t.fcs fi).frm).toNat < (mem (fct t.fcs fi) mi).length := by omega
   have hv := mem_val hfo hmi hgl
   obtain ⟨bx, ox, cx, hax, -, hcx, hRx, -⟩ := sl_at hvm (show (mem (fct t.fcs fi) mi)[(t.frm + (k : Int) - (fct t.fcs fi).frm).toNat]? = some ((mem (fct t.fcs fi) mi).getD (t.frm + (k : Int) - (fct t.fcs fi).frm).toNat 0) by simp [List.getD, hgl])
   obtain ⟨rfl, -⟩ := hRx
   have htick : Bd (t.frm + (k : Int)) 0 200000 := ⟨by omega, by omega⟩
   have hw := wrong_bd hok hfo htick
   have htd := tide_sbd hok k
   unfold SBd at htd
   refine skip <| cwQ <| seq <| region_draw mixed (by kernel_rfl) hS <| qv (fun w hS => (fa61_3 h9)) <| qv (fun w hS => (yLdB rfl isAgg59 (hS.at _) rfl)) <| qv (fun w hS => (yMove h2)) <| qv (fun w hS => (yIxQ rfl ham rfl runUnderlying59 sizeOf39)) <| qv (fun w hS => (yLd rfl isAgg39 (hcm.ext hS.ext).one)) ?_
   refine qv (fun w hS => (yMove rfl)) <| qv (fun w hS => (yIxQ rfl hax rfl runUnderlying39 sizeOf3)) <| qv (fun w hS => (yLd rfl isAgg3 (hcx.ext hS.ext).one)) <| qv (fun w hS => (yLdBA h3 isAgg29 sizeOf29 (hS.at _) rfl rfl)) <| qv (fun w hS => (yMove h1)) <| qv (fun w hS => (fa29_3 h3)) <| qv (fun w hS => (yLdB rfl isAgg3 (hS.at _) rfl)) <| qv (fun w hS => (yMove h11)) <| qv (fun w hS => (yAdd rfl rfl ⟨by omega, by omega⟩)) ?_
   refine qcall call91 (.cons rfl (.cons rfl (.cons rfl .nil))) (fun w hS => (c_rwrong (h.ext hS.ext) hok hfi htick)) <| qv (fun w hS => (yAsg rfl)) <| qv (fun w hS => (yAsg rfl)) ?_
   clear hS; refine qnil (fun w hS => ?_)
   refine cwQ <| region_mix (fun w => StX [] w0 w [rowI (.slice (some ⟨gt, 0, none⟩) t.ticks.toNat ctt) 74 2 t.ticks.toNat ((tidesS t).flatMap spanC)]) 23 mixed hS ?_
   clear hS; intro w hS
   refine fsQ 0 rfl (fun w hS => (yMove h10)) <| fsQ 1 rfl (fun w hS => (yMove h7)) <| fsQ 2 rfl (fun w hS => (yMove h11)) <| fsQ 3 rfl (fun w hS => (yIxQ rfl rfl rfl runUnderlying86 sizeOf74)) <| fsQ 4 rfl (fun w hS => (fa74_0 rfl)) ?_
   refine fsQ 5 rfl (fun w hS => (yLd rfl isAgg3 (show w.cell? ⟨gt, 0 + (k : Int).toNat * 2 + 0, none⟩ = _ by rw [show 0 + (k : Int).toNat * 2 + 0 = k * 2 + 0 by omega]; exact (flat_cells0 (enc := spanC) spanC_len (row_at (hS.row (.slice (some ⟨gt, 0, none⟩) t.ticks.toNat ctt)) rfl (by omega)) (tidesS_get (t := t) (i := k) (by omega))).at (j := 0) rfl))) ?_
   refine fsQ 6 rfl (fun w hS => (yMove rfl)) <| fsQ 7 rfl (fun w hS => (yAdd rfl rfl ⟨by omega, by omega⟩)) <| fsQ 8 rfl (fun w hS => (yMove rfl)) <| fsQ 9 rfl (fun w hS => (ySub rfl rfl ⟨by omega, by omega⟩)) <| fsQ 10 rfl (fun w hS => (yMove h7)) <| fsQ 11 rfl (fun w hS => (yMove h11)) <| fsQ 12 rfl (fun w hS => (yIxQ rfl rfl rfl runUnderlying86 sizeOf74)) <| fsQ 13 rfl (fun w hS => (fa74_1 rfl)) ?_
   refine fsQ 14 rfl (fun w hS => (yLd rfl isAgg3 (show w.cell? ⟨gt, 0 + (k : Int).toNat * 2 + 1, none⟩ = _ by rw [show 0 + (k : Int).toNat * 2 + 1 = k * 2 + 1 by omega]; exact (flat_cells0 (enc := spanC) spanC_len (row_at (hS.row (.slice (some ⟨gt, 0, none⟩) t.ticks.toNat ctt)) rfl (by omega)) (tidesS_get (t := t) (i := k) (by omega))).at (j := 1) rfl))) ?_
   refine fsQ 15 rfl (fun w hS => (yMove rfl)) <| fsQ 16 rfl (fun w hS => (yAdd rfl rfl ⟨by omega, by omega⟩)) <| fsQ 17 rfl (fun w hS => (yMove rfl)) <| fsQ 18 rfl (fun w hS => (yAdd rfl rfl ⟨by omega, by omega⟩)) <| fsQ 19 rfl (fun w hS => (yBuild zeroValue74 rfl pl74 (.cons rfl rfl (.cons rfl rfl .nil)) rfl)) <| awQ <| a1Q 20 (by kernel_rfl) rfl ?_
   refine sbslice hS underlying86 sizeOf74 rfl zeroValue74 rfl (.cons rfl rfl .nil) rfl ?_; clear hS; intro b92 w hS
   refine nil <| kpQ <| awQ <| awQ <| a1Q 21 (by kernel_rfl) rfl ?_
   refine sapp (bytes := 16) (size := 2) (v := ov) (m := 1) hS rfl rfl underlying86 ti74 rfl rfl rfl rfl (by decide) (blk_cells (hS.at _)) rfl rfl (by omega) (by omega) ?_; clear hS; intro v93 w hS
   refine nil <| kpQ <| awQ <| fsQ 22 rfl (fun w hS => (yAsg rfl)) <| a_end (by kernel_rfl) <| cwQ <| region <| sv (yMove h11) <| sv (yAdd rfl rfl ⟨by omega, by omega⟩) ?_
   refine sv (yAsg rfl) <| nil ?_
   exact ⟨_, _, rfl, ⟨k + 1, _, h1, h2, h3, h7, h9, rfl, rfl, (by rw [take_snoc (tubeS_get (show k < t.ticks.toNat by omega)), List.flatMap_append, hat]; exact sbQ hS), (by omega), rfl⟩, by omega⟩
 ·
  simp only [BS, ne_eq] at c33
  have hkk : k = t.ticks.toNat := by omega
  rw [hkk, ← htl, List.take_length, htl] at hS
  refine exit <| cwQ <| seq <| region <| sv (yMove h10) <| sv (yAsg rfl) <| nil <| cwQ <| wp_ret ?_
  refine retQ (res1 rfl rfl) ?_
  exact hS.sub (.cons_cons _ (List.nil_sublist _))
end Go.Proofs.YtgidbailiababaaGreatDoor

/- part Sy5 -/
namespace Go.Proofs.YtgidbailiababaaGreatDoor
open Go Bx Go.Proofs.Tryz
theorem c_rcommon {a b : Span} {w0 : World} : CV Tryz.prog 88 #[.agg (spanC a).toArray, .agg (spanC b).toArray] w0 (.agg (spanC (cutS a b)).toArray) := by
 refine enter func88 rfl ntmps88 rfl ?_
 have hS := St.start w0
 refine seq <| region ?_
 refine sbox hS rfl rfl ?_; clear hS; intro b2 w hS
 refine sbox hS rfl rfl ?_; clear hS; intro b3 w hS
 refine salloc hS zeroValue74 rfl ?_; clear hS; intro b4 w hS
 refine nil <| cwQ <| seq <| region <| sv (fa74_0 rfl) <| sv (yLdB rfl isAgg3 (hS.at _) rfl) <| sv (fa74_0 rfl) <| sv (yLdB rfl isAgg3 (hS.at _) rfl) <| sv (yMax rfl rfl) ?_
 refine sv (fa74_1 rfl) <| sv (yLdB rfl isAgg3 (hS.at _) rfl) <| sv (fa74_1 rfl) <| sv (yLdB rfl isAgg3 (hS.at _) rfl) <| sv (yMin rfl rfl) <| sv (yBuild zeroValue74 rfl pl74 (.cons rfl rfl (.cons rfl rfl .nil)) rfl) ?_
 refine sst hS rfl rfl sizeOf74 rfl rfl rfl rfl ?_; clear hS; intro w hS
 refine nil <| cwQ <| wp_ret ?_
 exact retV (resV1 rfl (rc rfl isAgg74 sizeOf74 (hS.at _) rfl rfl)) hS.ext
set_option maxHeartbeats 2000000 in
theorem c_rbase {t : Sgt} {cs : List Value} {now : Int} {w0 : World} (h : RSgt w0 cs t) (hok : SgOk t) : CE Tryz.prog 86 #[.agg cs.toArray, .int .i64 now] w0 (fun u w' => St w0 w' [rowI u 74 2 t.ticks.toNat ((baseS t now).flatMap spanC)]) := by
 obtain ⟨cv, gv, tv, fv, rfl, hT, hG, hw64, hf64, hk64, hC, hF, hl64, hm64, hr64, hq64⟩ := id h
 obtain ⟨ag, cg, rfl, hgcap, hgmx, hgel⟩ := id hG
 obtain ⟨ak, ck, rfl, hkcap, hkmx, hkel⟩ := id hC
 obtain ⟨ae, ce, rfl, hecap, hemx, heel⟩ := id hF
 have htk := hok.tk
 have htf := hok.levs.2
 have hn4 := hok.nums4
 have hbl := baseS_len t now
 refine enter func86 rfl ntmps86 rfl ?_
 have hS := St.start w0
 refine seq <| region ?_
 refine sbox hS rfl rfl ?_; clear hS; intro b2 w hS
 refine sv (yAsg rfl) <| nil <| cwQ <| seq <| region <| sv (fa29_0 rfl) <| sv (yLdBA rfl isAgg24 sizeOf24 (hS.at _) rfl rfl) <| sv (fa29_3 rfl) <| sv (yLdB rfl isAgg3 (hS.at _) rfl) ?_
 refine sv (fa29_4 rfl) <| sv (yLdB rfl isAgg3 (hS.at _) rfl) ?_
 refine scall call59 (.cons rfl (.cons rfl (.cons rfl .nil))) (c_rLevels (hT.ext hS.ext) hf64 hk64) ?_
 rintro _ w ⟨tv, rfl, hM⟩; replace hS := hS.call1 hM; clear hM
 rw [levelsF_good hok.lev, show lvlsL t.table t.frm t.ticks.toNat = tidesS t from rfl, tidesS_len] at hS
 obtain ⟨att, ctt, rfl⟩ := row_shape (hS.row tv)
 refine sv (yMove rfl) <| sv (yExt rfl rfl) <| sv (yExt rfl rfl) <| sv (yAsg rfl) <| sv (yAsg rfl) <| nil <| cwQ <| seq <| region ?_
 refine sv (yAsg rfl) <| nil <| cwQ <| seq <| seq <| region <| sv (yAsg rfl) <| nil <| cwQ ?_
 refine block <| loop (fun f w zz => ∃ (k : Nat) (ov : Value), f 1 = .int .i64 now ∧ f 2 = ptQ b2 ∧ f 5 = .slice att t.ticks.toNat ctt ∧ f 7 = ov ∧ f 8 = .int .i64 (k : Int) ∧ StX [] w0 w [rowI (ov) 74 2 k (((baseS t now).take k).flatMap spanC), rowI (.slice att t.ticks.toNat ctt) 74 2 t.ticks.toNat ((tidesS t).flatMap spanC), blk b2 (scQ t cv ag ak ae cg ck ce) 29] ∧ (k ≤ t.ticks.toNat) ∧ zz = t.ticks.toNat - k) _ ⟨_, rfl, 0, _, rfl, rfl, rfl, rfl, rfl, (hS.nilrow 74 2), (Nat.zero_le _), rfl⟩ ?_
 clear hS
 rintro f w _ ⟨k, ov, h1, h2, h5, h7, h8, hS, hk, rfl⟩
 refine seq <| seq <| region <| sv (yMove h8) <| sv (fa29_4 h2) <| sv (yLdB rfl isAgg3 (hS.at _) rfl) <| sv (yLss rfl rfl) <| nil <| cwQ ?_
 refine cond rfl (fun c25 => ?_) (fun c25 => ?_)
 ·
  simp only [BS, ne_eq] at c25
  have hkl : k < t.ticks.toNat := by omega
  obtain ⟨gt, rfl, -⟩ := row_get (hS.row (.slice att t.ticks.toNat ctt)) (by omega)
  have htd := tide_sbd hok k
  unfold SBd at htd
  refine skip <| cwQ <| seq <| block ?_
  refine seqJ (n := 74) (fun f w => ∃ (b9 : Nat), f 1 = .int .i64 now ∧ f 2 = ptQ b2 ∧ f 5 = .slice (some ⟨gt, 0, none⟩) t.ticks.toNat ctt ∧ f 7 = ov ∧ f 8 = .int .i64 (k : Int) ∧ f 9 = ptQ b9 ∧ StX [] w0 w [blk b9 (spanC (surgeAt t k)) 74, rowI (ov) 74 2 k (((baseS t now).take k).flatMap spanC), rowI (.slice (some ⟨gt, 0, none⟩) t.ticks.toNat ctt) 74 2 t.ticks.toNat ((tidesS t).flatMap spanC), blk b2 (scQ t cv ag ak ae cg ck ce) 29] ∧ True) ?_ ?_
  ·
   refine region_mix (fun w => StX [] w0 w [rowI (.slice (some ⟨gt, 0, none⟩) t.ticks.toNat ctt) 74 2 t.ticks.toNat ((tidesS t).flatMap spanC), blk b2 (scQ t cv ag ak ae cg ck ce) 29]) 21 mixed hS ?_
   clear hS; intro w hS
   refine fsQ 0 rfl (fun w hS => (yBuild zeroValue74 rfl pl74 (.cons rfl rfl (.cons rfl rfl .nil)) rfl)) <| fsQ 1 rfl (fun w hS => (yMove h5)) <| fsQ 2 rfl (fun w hS => (yMove h8)) <| fsQ 3 rfl (fun w hS => (yIxQ rfl rfl rfl runUnderlying86 sizeOf74)) <| fsQ 4 rfl (fun w hS => (fa74_0 rfl)) ?_
   refine fsQ 5 rfl (fun w hS => (yLd rfl isAgg3 (show w.cell? ⟨gt, 0 + (k : Int).toNat * 2 + 0, none⟩ = _ by rw [show 0 + (k : Int).toNat * 2 + 0 = k * 2 + 0 by omega]; exact (flat_cells0 (enc := spanC) spanC_len (row_at (hS.row (.slice (some ⟨gt, 0, none⟩) t.ticks.toNat ctt)) rfl (by omega)) (tidesS_get (t := t) (i := k) (by omega))).at (j := 0) rfl))) ?_
   refine fsQ 6 rfl (fun w hS => (fa29_7 h2)) <| fsQ 7 rfl (fun w hS => (yLdB rfl isAgg3 (hS.at _) rfl)) <| fsQ 8 rfl (fun w hS => (yAdd rfl rfl ⟨by omega, by omega⟩)) <| fsQ 9 rfl (fun w hS => (yMove h5)) <| fsQ 10 rfl (fun w hS => (yMove h8)) <| fsQ 11 rfl (fun w hS => (yIxQ rfl rfl rfl runUnderlying86 sizeOf74)) <| fsQ 12 rfl (fun w hS => (fa74_1 rfl)) ?_
   refine fsQ 13 rfl (fun w hS => (yLd rfl isAgg3 (show w.cell? ⟨gt, 0 + (k : Int).toNat * 2 + 1, none⟩ = _ by rw [show 0 + (k : Int).toNat * 2 + 1 = k * 2 + 1 by omega]; exact (flat_cells0 (enc := spanC) spanC_len (row_at (hS.row (.slice (some ⟨gt, 0, none⟩) t.ticks.toNat ctt)) rfl (by omega)) (tidesS_get (t := t) (i := k) (by omega))).at (j := 1) rfl))) ?_
   refine fsQ 14 rfl (fun w hS => (fa29_8 h2)) <| fsQ 15 rfl (fun w hS => (yLdB rfl isAgg3 (hS.at _) rfl)) <| fsQ 16 rfl (fun w hS => (yAdd rfl rfl ⟨by omega, by omega⟩)) <| fsQ 17 rfl (fun w hS => (yBuild zeroValue74 rfl pl74 (.cons rfl rfl (.cons rfl rfl .nil)) rfl)) <| awQ ?_
   refine a_step (i := 18) (is := [19]) (by kernel_rfl) ⟨?_, ?_, trivial⟩
   ·
    refine ⟨_, rfl, ?_⟩
    refine scV hS call88 (.cons rfl (.cons rfl .nil)) (c_rcommon (a := ⟨-20000, 20000⟩) (b := ⟨(tideS t k).lo + t.least, (tideS t k).hi + t.most⟩)) ?_; clear hS; intro w hS
    refine nil <| kpQ <| awQ <| awQ <| a1Q 19 (by kernel_rfl) rfl ?_
    refine salloc hS zeroValue74 rfl ?_; clear hS; intro b9 w hS
    refine nil <| kpQ <| awQ <| awQ <| a1Q 20 (by kernel_rfl) rfl ?_
    refine sst hS rfl rfl sizeOf74 rfl rfl rfl rfl ?_; clear hS; intro w hS
    refine nil <| kpQ <| awQ <| a_end (by kernel_rfl) ?_
    exact ⟨_, rfl, b9, h1, h2, h5, h7, h8, rfl, (sbQ hS), trivial⟩
   ·
    refine ⟨_, rfl, ?_⟩
    refine salloc hS zeroValue74 rfl ?_; clear hS; intro b9 w hS
    refine nil <| kpQ <| awQ <| awQ <| a1Q 18 (by kernel_rfl) rfl ?_
    refine scV hS call88 (.cons rfl (.cons rfl .nil)) (c_rcommon (a := ⟨-20000, 20000⟩) (b := ⟨(tideS t k).lo + t.least, (tideS t k).hi + t.most⟩)) ?_; clear hS; intro w hS
    refine nil <| kpQ <| awQ <| awQ <| a1Q 20 (by kernel_rfl) rfl ?_
    refine sst hS rfl rfl sizeOf74 rfl rfl rfl rfl ?_; clear hS; intro w hS
    refine nil <| kpQ <| awQ <| a_end (by kernel_rfl) ?_
    exact ⟨_, rfl, b9, h1, h2, h5, h7, h8, rfl, (sbQ hS), trivial⟩
  ·
   clear hS; rintro f w ⟨b9, h1, h2, h5, h7, h8, h9, hS, -⟩
   refine seqJ (n := 74) (fun f w => f 1 = .int .i64 now ∧ f 2 = ptQ b2 ∧ f 5 = .slice (some ⟨gt, 0, none⟩) t.ticks.toNat ctt ∧ f 7 = ov ∧ f 8 = .int .i64 (k : Int) ∧ f 9 = ptQ b9 ∧ StX [] w0 w [blk b9 (spanC (baseAt t now k)) 74, rowI (ov) 74 2 k (((baseS t now).take k).flatMap spanC), rowI (.slice (some ⟨gt, 0, none⟩) t.ticks.toNat ctt) 74 2 t.ticks.toNat ((tidesS t).flatMap spanC), blk b2 (scQ t cv ag ak ae cg ck ce) 29] ∧ True) ?_ ?_
   ·
    refine seq <| region <| sv (fa29_1 h2) <| sv (yLdB rfl isAgg25 (hS.at _) rfl) <| sv (yLen rfl underlying25) <| sv (yGtr rfl rfl) <| nil <| cwQ ?_
    refine cond rfl (fun c50 => ?_) (fun c50 => ?_)
    ·
     simp only [BS, ne_eq] at c50
     refine seq <| region <| sv (fa29_1 h2) <| sv (yLdB rfl isAgg25 (hS.at _) rfl) <| sv (fa29_2 h2) <| sv (yLdB rfl isAgg3 (hS.at _) rfl) <| sv (fa29_3 h2) <| sv (yLdB rfl isAgg3 (hS.at _) rfl) <| sv (yMove h8) ?_
     refine sv (yAdd rfl rfl ⟨by omega, by omega⟩) <| sv (yMove h1) ?_
     refine scall call142 (.cons rfl (.cons rfl (.cons rfl (.cons rfl .nil)))) (c_rSound (hG.ext RGauge.stays hS.ext)) ?_
     rw [← sound_law]
     rintro _ w ⟨rfl, hE⟩; replace hS := hS.step hE; clear hE
     refine sv (yMove rfl) <| sv (yExt rfl rfl) <| sv (yExt rfl rfl) ?_
     refine salloc hS zeroValue74 rfl ?_; clear hS; intro b10 w hS
     refine sst hS rfl rfl sizeOf74 rfl rfl rfl rfl ?_; clear hS; intro w hS
     refine sv (yAsg rfl) <| nil <| cwQ <| seq <| region <| sv (yMove rfl) <| sv (yEql rfl rfl) <| nil <| cwQ ?_
     refine cond rfl (fun c65 => ?_) (fun c65 => ?_)
     ·
      simp only [BS, ne_eq] at c65
      refine region <| sv (yLdBA h9 isAgg74 sizeOf74 (hS.at _) rfl rfl) <| sv (yLdBA rfl isAgg74 sizeOf74 (hS.at _) rfl rfl) ?_
      refine scV hS call88 (.cons rfl (.cons rfl .nil)) (c_rcommon (a := surgeAt t k) (b := (soundF t.gauges t.wrong (t.frm + (k : Int)) now).1)) ?_; clear hS; intro w hS
      refine sst hS h9 rfl sizeOf74 rfl rfl rfl rfl ?_; clear hS; intro w hS
      refine nil ?_
      exact ⟨_, rfl, h1, h2, h5, h7, h8, h9, (by rw [base_cut (by omega) c65]; exact sbQ hS), trivial⟩
     ·
      simp only [BS, ne_eq] at c65
      refine skip ?_
      exact ⟨_, rfl, h1, h2, h5, h7, h8, h9, (by rw [base_no (.inr c65)]; exact sbQ hS), trivial⟩
    ·
     simp only [BS, ne_eq] at c50
     refine skip ?_
     exact ⟨_, rfl, h1, h2, h5, h7, h8, h9, (by rw [base_no (.inl (by omega))]; exact sbQ hS), trivial⟩
   ·
    clear hS; rintro f w ⟨h1, h2, h5, h7, h8, h9, hS, -⟩
    refine region <| sv (yMove h7) <| sv (yLdBA h9 isAgg74 sizeOf74 (hS.at _) rfl rfl) ?_
    refine sbslice hS underlying86 sizeOf74 rfl zeroValue74 rfl (.cons rfl rfl .nil) rfl ?_; clear hS; intro b71 w hS
    refine sapp (bytes := 16) (size := 2) (v := ov) (m := 1) hS rfl rfl underlying86 ti74 rfl rfl rfl rfl (by decide) (blk_cells (hS.at _)) rfl rfl (by omega) (by omega) ?_; clear hS; intro v72 w hS
    refine sv (yAsg rfl) <| nil <| cwQ <| region <| sv (yMove h8) <| sv (yAdd rfl rfl ⟨by omega, by omega⟩) <| sv (yAsg rfl) <| nil ?_
    exact ⟨_, _, rfl, ⟨k + 1, _, h1, h2, h5, rfl, rfl, (by rw [take_snoc (baseS_get (show k < t.ticks.toNat by omega)), List.flatMap_append]; exact sbQ hS), (by omega), rfl⟩, by omega⟩
 ·
  simp only [BS, ne_eq] at c25
  have hkk : k = t.ticks.toNat := by omega
  rw [hkk, ← hbl, List.take_length, hbl] at hS
  refine exit <| cwQ <| seq <| region <| sv (yMove h7) <| sv (yAsg rfl) <| nil <| cwQ <| wp_ret ?_
  refine retQ (res1 rfl rfl) ?_
  exact hS.sub (.cons_cons _ (List.nil_sublist _))
end Go.Proofs.YtgidbailiababaaGreatDoor

/- part Sy6 -/
namespace Go.Proofs.YtgidbailiababaaGreatDoor
open Go Bx Go.Proofs.Tryz
set_option maxHeartbeats 2000000 in
theorem c_rtight {t : Sgt} {cs : List Value} {l : List Span} {v : Value} {w0 : World} (h : RSgt w0 cs t) (hok : SgOk t) (hl : Sl w0 2 RSpan v l) (hn : l.length ≤ 96) (hb : LBd 40000000 l) : CE Tryz.prog 89 #[.agg cs.toArray, v] w0 (fun u w' => ∃ ov, u = .tuple #[ov, .bool (someT t.rate l)] ∧ St w0 w' [rowI ov 74 2 l.length ((tightS t.rate l).flatMap spanC)]) := by
 obtain ⟨cv, gv, tv, fv, rfl, hT, hG, hw64, hf64, hk64, hC, hF, hl64, hm64, hr64, hq64⟩ := id h
 obtain ⟨ag, cg, rfl, hgcap, hgmx, hgel⟩ := id hG
 obtain ⟨ak, ck, rfl, hkcap, hkmx, hkel⟩ := id hC
 obtain ⟨ae, ce, rfl, hecap, hemx, heel⟩ := id hF
 obtain ⟨al, cl, rfl, hlcap, hlmx, -⟩ := id hl
 have hrt := hok.nums4.2.2.1
 have hr5 : 0 ≤ t.rate ∧ t.rate ≤ 5000 := ⟨by omega, by omega⟩
 have htl := tightS_len t.rate l
 refine enter func89 rfl ntmps89 rfl ?_
 have hS := St.start w0
 refine seq <| region ?_
 refine sbox hS rfl rfl ?_; clear hS; intro b2 w hS
 refine sv (yAsg rfl) <| sv (yAsg rfl) <| nil <| cwQ <| seq <| region <| sv (yAsg rfl) <| nil <| cwQ ?_
 refine seq <| region <| sv (yAsg rfl) <| nil <| cwQ <| seq <| seq <| region <| sv (yAsg rfl) ?_
 refine nil <| cwQ <| block <| loop (fun f w zz => ∃ (k : Nat) (ov : Value), f 1 = .slice al l.length cl ∧ f 2 = ptQ b2 ∧ f 6 = ov ∧ f 7 = .bool (someK t.rate l k) ∧ f 8 = .int .i64 (k : Int) ∧ StX [] w0 w [rowI (ov) 74 2 k (((tightS t.rate l).take k).flatMap spanC), blk b2 (scQ t cv ag ak ae cg ck ce) 29] ∧ (k ≤ l.length) ∧ zz = l.length - k) _ ⟨_, rfl, 0, _, rfl, rfl, rfl, rfl, rfl, (hS.nilrow 74 2), (Nat.zero_le _), rfl⟩ ?_
 clear hS
 rintro f w _ ⟨k, ov, h1, h2, h6, h7, h8, hS, hk, rfl⟩
 refine seq <| seq <| region <| sv (yMove h8) <| sv (yMove h1) <| sv (yLen rfl underlying86) <| sv (yLss rfl rfl) <| nil <| cwQ ?_
 refine cond rfl (fun c15 => ?_) (fun c15 => ?_)
 ·
  simp only [BS, ne_eq] at c15
  have hkl : k < l.length := by omega
  obtain ⟨bk, ok, csk, hak, -, hck, hRk, -⟩ := sl_at hl (spn_get (show k < l.length by omega))
  obtain ⟨rfl, -⟩ := hRk
  have hbk := hb k hkl
  unfold SBd at hbk
  refine skip <| cwQ <| seq <| block <| seq <| region <| sv (yMove h1) <| sv (yMove h8) <| sv (yIxQ rfl hak rfl runUnderlying86 sizeOf74) ?_
  refine sv (yLdA rfl isAgg74 sizeOf74 (hck.ext hS.ext) rfl) ?_
  refine salloc hS zeroValue74 rfl ?_; clear hS; intro b9 w hS
  refine sst hS rfl rfl sizeOf74 rfl rfl rfl rfl ?_; clear hS; intro w hS
  refine nil <| cwQ <| seq <| seq <| region <| sv (yAsg rfl) <| nil <| cwQ <| block ?_
  refine loop (fun f w zz => ∃ (j : Nat), f 1 = .slice al l.length cl ∧ f 2 = ptQ b2 ∧ f 6 = ov ∧ f 7 = .bool (someK t.rate l k) ∧ f 8 = .int .i64 (k : Int) ∧ f 9 = ptQ b9 ∧ f 10 = .int .i64 (j : Int) ∧ StX [] w0 w [blk b9 (spanC (rtgS t.rate l k j)) 74, rowI (ov) 74 2 k (((tightS t.rate l).take k).flatMap spanC), blk b2 (scQ t cv ag ak ae cg ck ce) 29] ∧ (j ≤ l.length) ∧ zz = l.length - j) _ ⟨_, rfl, 0, h1, h2, h6, h7, h8, rfl, rfl, hS, (Nat.zero_le _), rfl⟩ ?_
  clear hS
  rintro f w _ ⟨j, h1, h2, h6, h7, h8, h9, h10, hS, hj, rfl⟩
  refine seq <| seq <| region <| sv (yMove h10) <| sv (yMove h1) <| sv (yLen rfl underlying86) <| sv (yLss rfl rfl) <| nil <| cwQ ?_
  refine cond rfl (fun c25 => ?_) (fun c25 => ?_)
  ·
   simp only [BS, ne_eq] at c25
   have hjl : j < l.length := by omega
   obtain ⟨bj, oj, csj, haj, -, hcj, hRj, -⟩ := sl_at hl (spn_get (show j < l.length by omega))
   obtain ⟨rfl, -⟩ := hRj
   have hbj := hb j hjl
   unfold SBd at hbj
   have hfb := far_bd (i := k) (k := j) hr5 (by omega) (by omega)
   refine skip <| cwQ <| seq <| block <| seq <| region <| sv (fa29_9 h2) <| sv (yLdB rfl isAgg3 (hS.at _) rfl) <| sv (yMove h8) ?_
   refine sv (yMove h10) <| sv (ySub rfl rfl ⟨by omega, by omega⟩) <| sv (yMove h10) <| sv (yMove h8) <| sv (ySub rfl rfl ⟨by omega, by omega⟩) <| sv (yMax rfl rfl) <| sv (yMul rfl rfl ⟨by omega, by omega⟩) <| sv (yAsg rfl) <| nil ?_
   refine cwQ <| region_mix (fun w => StX [] w0 w [blk b9 (spanC (rtgS t.rate l k j)) 74]) 17 mixed hS ?_
   clear hS; intro w hS
   refine fsQ 0 rfl (fun w hS => (yLdBA h9 isAgg74 sizeOf74 (hS.at _) rfl rfl)) <| fsQ 1 rfl (fun w hS => (yMove h1)) <| fsQ 2 rfl (fun w hS => (yMove h10)) <| fsQ 3 rfl (fun w hS => (yIxQ rfl haj rfl runUnderlying86 sizeOf74)) <| fsQ 4 rfl (fun w hS => (fa74_0 rfl)) <| fsQ 5 rfl (fun w hS => (yLd rfl isAgg3 ((hcj.ext hS.ext).at (j := 0) rfl))) <| fsQ 6 rfl (fun w hS => (yMove rfl)) <| fsQ 7 rfl (fun w hS => (ySub rfl rfl ⟨by omega, by omega⟩)) <| fsQ 8 rfl (fun w hS => (yMove h1)) ?_
   refine fsQ 9 rfl (fun w hS => (yMove h10)) <| fsQ 10 rfl (fun w hS => (yIxQ rfl haj rfl runUnderlying86 sizeOf74)) <| fsQ 11 rfl (fun w hS => (fa74_1 rfl)) <| fsQ 12 rfl (fun w hS => (yLd rfl isAgg3 ((hcj.ext hS.ext).at (j := 1) rfl))) <| fsQ 13 rfl (fun w hS => (yMove rfl)) <| fsQ 14 rfl (fun w hS => (yAdd rfl rfl ⟨by omega, by omega⟩)) <| fsQ 15 rfl (fun w hS => (yBuild zeroValue74 rfl pl74 (.cons rfl rfl (.cons rfl rfl .nil)) rfl)) <| awQ <| a1Q 16 (by kernel_rfl) rfl ?_
   refine scV hS call88 (.cons rfl (.cons rfl .nil)) (c_rcommon (a := rtgS t.rate l k j) (b := ⟨(spn l j).lo - t.rate * max ((k : Int) - j) ((j : Int) - k), (spn l j).hi + t.rate * max ((k : Int) - j) ((j : Int) - k)⟩)) ?_; clear hS; intro w hS
   refine nil <| kpQ <| awQ <| awQ <| a1Q 17 (by kernel_rfl) rfl ?_
   refine sst hS h9 rfl sizeOf74 rfl rfl rfl rfl ?_; clear hS; intro w hS
   refine nil ?_
   refine ⟨fun h => absurd h (by decide), ?_⟩
   refine awQ <| a_end (by kernel_rfl) <| cwQ <| region <| sv (yMove h10) <| sv (yAdd rfl rfl ⟨by omega, by omega⟩) <| sv (yAsg rfl) <| nil ?_
   exact ⟨_, _, rfl, ⟨j + 1, h1, h2, h6, h7, h8, h9, rfl, (by rw [rtgS_succ]; exact hS), (by omega), rfl⟩, by omega⟩
  ·
   simp only [BS, ne_eq] at c25
   have hjj : j = l.length := by omega
   rw [hjj, rtg_tg hr5.1 hkl] at hS
   have htb := rtg_sbd hb hkl hr5 hn l.length (Nat.le_refl _)
   rw [rtg_tg hr5.1 hkl] at htb
   unfold SBd at htb
   refine exit <| cwQ <| seq <| region_draw mixed (by kernel_rfl) hS <| qv (fun w hS => (yMove h7)) <| qv (fun w hS => (yMove rfl)) ?_
   refine qg rfl rfl rfl (fun g w hS => (yMove h1)) (fun v57 g57 => ?_)
   refine qg rfl rfl rfl (fun g w hS => (yMove h8)) (fun v58 g58 => ?_)
   refine qg rfl rfl rfl (fun g w hS => (yIxQ (g57.1 g) hak (g58.1 g) runUnderlying86 sizeOf74)) (fun v59 g59 => ?_)
   refine qg rfl rfl rfl (fun g w hS => (fa74_0 (g59.1 g))) (fun v60 g60 => ?_)
   refine qg rfl rfl rfl (fun g w hS => (yLd (g60.1 g) isAgg3 ((hck.ext hS.ext).at (j := 0) rfl))) (fun v61 g61 => ?_)
   refine qg rfl rfl rfl (fun g w hS => (yMove h1)) (fun v62 g62 => ?_)
   refine qg rfl rfl rfl (fun g w hS => (yMove h8)) (fun v63 g63 => ?_)
   refine qg rfl rfl rfl (fun g w hS => (yIxQ (g62.1 g) hak (g63.1 g) runUnderlying86 sizeOf74)) (fun v64 g64 => ?_)
   refine qg rfl rfl rfl (fun g w hS => (fa74_1 (g64.1 g))) (fun v65 g65 => ?_)
   refine qg rfl rfl rfl (fun g w hS => (yLd (g65.1 g) isAgg3 ((hck.ext hS.ext).at (j := 1) rfl))) (fun v66 g66 => ?_)
   refine qg rfl rfl rfl (fun g w hS => (yLeq (g61.1 g) (g66.1 g))) (fun v67 g67 => ?_)
   refine qv (fun w hS => (yAnd rfl (fun hB => (g67.1 hB)) rfl)) <| qv (fun w hS => (yMove rfl)) ?_
   refine qg rfl rfl rfl (fun g w hS => (fa74_0 h9)) (fun v70 g70 => ?_)
   refine qg rfl rfl rfl (fun g w hS => (yLdB (g70.1 g) isAgg3 (hS.at _) rfl)) (fun v71 g71 => ?_)
   refine qg rfl rfl rfl (fun g w hS => (fa74_1 h9)) (fun v72 g72 => ?_)
   refine qg rfl rfl rfl (fun g w hS => (yLdB (g72.1 g) isAgg3 (hS.at _) rfl)) (fun v73 g73 => ?_)
   refine qg rfl rfl rfl (fun g w hS => (yLeq (g71.1 g) (g73.1 g))) (fun v74 g74 => ?_)
   refine qv (fun w hS => (yAnd rfl (fun hB => (g74.1 hB)) rfl)) <| qv (fun w hS => (yAsg rfl)) ?_
   clear hS; refine qnil (fun w hS => ?_)
   refine cwQ <| region <| sv (yMove h6) <| sv (yLdBA h9 isAgg74 sizeOf74 (hS.at _) rfl rfl) ?_
   refine sbslice hS underlying86 sizeOf74 rfl zeroValue74 rfl (.cons rfl rfl .nil) rfl ?_; clear hS; intro b78 w hS
   refine sapp (bytes := 16) (size := 2) (v := ov) (m := 1) hS rfl rfl underlying86 ti74 rfl rfl rfl rfl (by decide) (blk_cells (hS.at _)) rfl rfl (by omega) (by omega) ?_; clear hS; intro v79 w hS
   refine sv (yAsg rfl) <| nil <| cwQ <| region <| sv (yMove h8) <| sv (yAdd rfl rfl ⟨by omega, by omega⟩) <| sv (yAsg rfl) <| nil ?_
   exact ⟨_, _, rfl, ⟨k + 1, _, h1, h2, rfl, rfl, rfl, (by rw [take_snoc (tightS_get hkl), List.flatMap_append]; exact sbQ hS), (by omega), rfl⟩, by omega⟩
 ·
  simp only [BS, ne_eq] at c15
  have hkk : k = l.length := by omega
  rw [hkk] at h7
  rw [someK_all] at h7
  rw [hkk, ← htl, List.take_length, htl] at hS
  refine exit <| cwQ <| seq <| region <| sv (yMove h6) <| sv (yMove h7) <| sv (yAsg rfl) <| sv (yAsg rfl) <| nil ?_
  refine cwQ <| wp_ret <| retQ (res2 rfl rfl rfl) ?_
  exact ⟨_, rfl, hS.sub (.cons_cons _ (List.nil_sublist _))⟩
end Go.Proofs.YtgidbailiababaaGreatDoor

/- part Sy8 -/
namespace Go.Proofs.YtgidbailiababaaGreatDoor
open Go Bx Go.Proofs.Tryz
set_option maxHeartbeats 1000000 in
theorem c_rneeded {t : Sgt} {cs : List Value} {now : Int} {w0 : World} (h : RSgt w0 cs t) (hok : SgOk t) (hnow : Bd now 0 200000) : CV Tryz.prog 123 #[.agg cs.toArray, .int .i64 now] w0 (.int .i64 (needS t now)) := by
 obtain ⟨cv, gv, tv, fv, rfl, hT, hG, hw64, hf64, hk64, hC, hF, hl64, hm64, hr64, hq64⟩ := id h
 obtain ⟨ag, cg, rfl, hgcap, hgmx, hgel⟩ := id hG
 obtain ⟨ak, ck, rfl, hkcap, hkmx, hkel⟩ := id hC
 obtain ⟨ae, ce, rfl, hecap, hemx, heel⟩ := id hF
 have hnc := hok.nc
 have hn4 := hok.nums4
 refine enter func123 rfl ntmps123 rfl ?_
 have hS := St.start w0
 refine seq <| region ?_
 refine sbox hS rfl rfl ?_; clear hS; intro b2 w hS
 refine sv (yAsg rfl) <| nil <| cwQ <| seq <| region <| sv (yAsg rfl) <| nil <| cwQ <| seq ?_
 refine region <| sv (yLdBA rfl isAgg29 sizeOf29 (hS.at _) rfl rfl) <| sv (yMove rfl) ?_
 refine scall call85 (.cons rfl (.cons rfl .nil)) (c_rcurrent (h.ext hS.ext) hok hnow) ?_
 rintro cv9 w hM; replace hS := hS.call1 hM; clear hM
 obtain ⟨acv, ccv, rfl⟩ := row_shape (hS.row cv9)
 refine sv (yAsg rfl) <| nil <| cwQ <| seq <| seq <| region <| sv (yAsg rfl) <| nil <| cwQ ?_
 refine block <| loop (fun f w zz => ∃ (k : Nat), f 2 = ptQ b2 ∧ f 5 = .int .i64 ((cntR (fun i => decide (0 ≤ curOf t now i)) 0 k : Nat) : Int) ∧ f 6 = .slice acv t.ctrs.length ccv ∧ f 7 = .int .i64 (k : Int) ∧ StX [] w0 w [rowI (.slice acv t.ctrs.length ccv) 3 1 t.ctrs.length ((curS t now).flatMap Bx.encI), blk b2 (scQ t cv ag ak ae cg ck ce) 29] ∧ (k ≤ t.ctrs.length) ∧ zz = t.ctrs.length - k) _ ⟨_, rfl, 0, rfl, rfl, rfl, rfl, hS, (Nat.zero_le _), rfl⟩ ?_
 clear hS
 rintro f w _ ⟨k, h2, h5, h6, h7, hS, hk, rfl⟩
 refine seq <| seq <| region <| sv (yMove h7) <| sv (yMove h6) <| sv (yLen rfl underlying39) <| sv (yLss rfl rfl) <| nil <| cwQ ?_
 refine cond rfl (fun c14 => ?_) (fun c14 => ?_)
 ·
  simp only [BS, ne_eq] at c14
  have hkl : k < t.ctrs.length := by omega
  obtain ⟨gc, rfl, -⟩ := row_get (hS.row (.slice acv t.ctrs.length ccv)) (by omega)
  have hca := cntR_bd (fun i => decide (0 ≤ curOf t now i)) k 0
  refine skip <| cwQ <| seq <| block <| seq <| region <| sv (yMove h6) <| sv (yMove h7) <| sv (yIxQ rfl rfl rfl runUnderlying39 sizeOf3) ?_
  refine sv (yLd rfl isAgg3 (show w.cell? ⟨gc, 0 + (k : Int).toNat * 1, none⟩ = _ by rw [show 0 + (k : Int).toNat * 1 = k * 1 by omega]; exact (flat_cells0 (enc := Bx.encI) Bx.encI_len (row_at (hS.row (.slice (some ⟨gc, 0, none⟩) t.ctrs.length ccv)) rfl (by omega)) (curS_get t now hkl)).one)) ?_
  refine sv (yGeq rfl rfl) <| nil <| cwQ ?_
  refine cond rfl (fun c21 => ?_) (fun c21 => ?_)
  ·
   simp only [BS, ne_eq] at c21
   refine region <| sv (yMove h5) <| sv (yAdd rfl rfl ⟨by omega, by omega⟩) <| sv (yAsg rfl) <| nil <| cwQ <| region <| sv (yMove h7) <| sv (yAdd rfl rfl ⟨by omega, by omega⟩) ?_
   refine sv (yAsg rfl) <| nil ?_
   exact ⟨_, _, rfl, ⟨k + 1, h2, (rfl.trans (congrArg (Value.int .i64) (cnt_yes (p := (fun i => decide (0 ≤ curOf t now i))) (decide_eq_true (by omega))))), h6, rfl, hS, (by omega), rfl⟩, by omega⟩
  ·
   simp only [BS, ne_eq] at c21
   refine skip <| cwQ <| region <| sv (yMove h7) <| sv (yAdd rfl rfl ⟨by omega, by omega⟩) <| sv (yAsg rfl) <| nil ?_
   exact ⟨_, _, rfl, ⟨k + 1, h2, (h5.trans (congrArg (Value.int .i64) (cnt_no (p := (fun i => decide (0 ≤ curOf t now i))) (decide_eq_false (by omega))))), h6, rfl, hS, (by omega), rfl⟩, by omega⟩
 ·
  simp only [BS, ne_eq] at c14
  obtain rfl : k = t.ctrs.length := by omega
  have hca := cntR_bd (fun i => decide (0 ≤ curOf t now i)) t.ctrs.length 0
  refine exit <| cwQ <| seq <| region <| sv (yMove h5) <| sv (fa29_10 h2) <| sv (yLdB rfl isAgg3 (hS.at _) rfl) <| sv (yMin rfl rfl) <| sv (yAsg rfl) ?_
  refine nil <| cwQ <| wp_ret ?_
  exact retV (res1 rfl (congrArg (Value.int .i64) need_cnt)) hS.ext
end Go.Proofs.YtgidbailiababaaGreatDoor

/- part S39 -/
namespace Bx
open Go Go.RowKit
section
variable {t : Sgt} {now : Int}
def rchM (t : Sgt) (cs : List Int) (n : Nat) (c : List Int) (many : Int) (k : Nat) : List (List Int) := (List.range k).flatMap fun (m : Nat) => rchS t cs n (c ++ [(m : Int)]) (many - 1)
theorem rchM_succ {cs : List Int} {n : Nat} {c : List Int} {many : Int} {k : Nat} : rchM t cs n c many (k + 1) = rchM t cs n c many k ++ rchS t cs n (c ++ [(k : Int)]) (many - 1) := by
  unfold rchM
  rw [List.range_succ, List.flatMap_append, List.flatMap_singleton]
theorem rch_skip {cs : List Int} {n : Nat} {c : List Int} {many : Int} (h : cs.getD c.length (-1) < 0 ∨ many = 0) : rchS t cs (n + 1) c many = rchS t cs n (c ++ [-1]) many := by
  rw [rchS, if_pos h, List.append_nil]
theorem rch_more {cs : List Int} {n : Nat} {c : List Int} {many : Int} (h : ¬ (cs.getD c.length (-1) < 0 ∨ many = 0)) : rchS t cs (n + 1) c many = rchS t cs n (c ++ [-1]) many ++ rchM t cs n c many (fct t.fcs (cs.getD c.length (-1)).toNat).members.length := by
  rw [rchS, if_neg h]; rfl
theorem rch_bd (h : SgOk t) : ∀ (n : Nat) (c : List Int) (many : Int), n ≤ 4 → c.length + n ≤ t.ctrs.length → (rchS t (curS t now) n c many).length ≤ 5 ^ n ∧ ∀ q, q ≤ 4 → 1 ≤ n → (rchM t (curS t now) (n - 1) c many q).length ≤ q * 5 ^ (n - 1) := fun n => by
  induction n with
  | zero => intro c many _ _; rw [rchS]; exact ⟨by split <;> simp, fun q _ h => absurd h (by decide)⟩
  | succ n ih =>
    intro c many hn hc
    have h2 : ∀ q, q ≤ 4 → (rchM t (curS t now) n c many q).length ≤ q * 5 ^ n := fun q => by
      induction q with
      | zero => intro _; simp [rchM]
      | succ q ihq =>
        intro hq
        rw [rchM_succ, List.length_append, Nat.succ_mul]
        have h3 := ihq (by omega)
        have h4 := (ih (c ++ [(q : Int)]) (many - 1) (by omega) (by simp; omega)).1
        omega
    refine ⟨?_, fun q hq _ => h2 q hq⟩
    have h1 := (ih (c ++ [-1]) many (by omega) (by simp; omega)).1
    have h5 : 5 ^ (n + 1) = 5 ^ n + 4 * 5 ^ n := by rw [Nat.pow_succ]; omega
    by_cases hk : (curS t now).getD c.length (-1) < 0 ∨ many = 0
    · rw [rch_skip hk]; omega
    · rw [rch_more hk, List.length_append]
      have h0 : 0 ≤ (curS t now).getD c.length (-1) := by omega
      rw [cur_at (by omega)] at h0 ⊢
      obtain ⟨-, hf⟩ := cur_fct h h0
      have hm := hf.nm.2
      have h3 := h2 _ hm
      have h6 : (fct t.fcs (curOf t now c.length).toNat).members.length * 5 ^ n ≤ 4 * 5 ^ n := Nat.mul_le_mul_right _ hm
      omega
end
theorem ch_pack {S : List Nat} {w0 w : World} {u x : Item} {its L : List Item} (h : StX S w0 w (u :: packI its :: x :: L)) : StX S w0 w (u :: packI (its ++ [x]) :: L) :=
  (StX.packs (h.perm (tight_swap x (packI its) u L))).perm (.swap _ _ _)
theorem rchM_0 {t : Sgt} {cs : List Int} {n : Nat} {c : List Int} {many : Int} : rchM t cs n c many 0 = [] := rfl
theorem rows_one {w : World} {vs : List Value} {l : List (List Int)} (h : Bx.Rows w 1 RRow (vs.map fun v => [v]) l) : vs.all (·.oneCell') = true := by
  induction vs generalizing l with
  | nil => rfl
  | cons v vs ih =>
    match l, h with
    | x :: l, ⟨_, h2, h3⟩ =>
      obtain ⟨u, e, hs⟩ := h2
      obtain rfl : v = u := by simpa using e
      obtain ⟨a, c, rfl, -⟩ := hs
      rw [List.all_cons, ih h3]
      rfl
theorem ch_pack3 {S : List Nat} {w0 w : World} {u x : Item} {p q L : List Item} (h : StX S w0 w (packI q :: x :: u :: packI p :: L)) : StX S w0 w (u :: packI (p ++ (q ++ [x])) :: L) := by
  have h1 : StX S w0 w (packI p :: (q ++ [x]) ++ (u :: L)) := h.unpack.perm (by
    rw [List.cons_append, List.append_assoc]
    refine List.Perm.trans (List.Perm.append_left q (?_ : (x :: u :: packI p :: L).Perm (packI p :: x :: u :: L))) List.perm_middle
    exact ((List.Perm.swap (packI p) u L).cons x).trans (.swap (packI p) x (u :: L)))
  have h2 : StX S w0 w ((p ++ (q ++ [x])) ++ (u :: L)) := by rw [List.append_assoc]; exact h1.unpack
  exact h2.pack.perm (.swap _ _ _)
theorem ch_sl {w : World} {v : Value} {c : List Int} {x : Int} (h : w.ownsRow 0 3 1 v (c.length + 1) (c.flatMap Bx.encI ++ [.int .i64 x])) (hc : ∀ p ∈ c, I64 p) (hx : I64 x) : Sl w 1 RInt v (c ++ [x]) := by
  refine sl_ints (e := 3) (n := c.length + 1) ?_ (by simp) (fun p hp => ?_)
  · rw [List.flatMap_append]; exact h
  · rcases List.mem_append.1 hp with hp | hp
    · exact hc p hp
    · obtain rfl := List.mem_singleton.1 hp; exact hx
theorem ch_one (c : List Int) : (c.flatMap Bx.encI).all (·.oneCell') = true := by
  induction c with
  | nil => rfl
  | cons x c ih => rw [List.flatMap_cons, List.all_append, ih]; rfl
theorem ch_cat {α : Type} {w : World} {k : Nat} {R : World → List Value → α → Prop} : ∀ {a b : List (List Value)} {l m : List α}, Bx.Rows w k R a l → Bx.Rows w k R b m → Bx.Rows w k R (a ++ b) (l ++ m)
  | [], _, [], _, _, h => h
  | _ :: _, _, _ :: _, _, ⟨h1, h2, h3⟩, h => ⟨h1, h2, ch_cat h3 h⟩
end Bx

/- part S40 -/
namespace Bx
open Go Go.RowKit
section
variable {t : Sgt} {now : Int}
def ChOk (t : Sgt) (cs c : List Int) : Prop := ∀ q, q < c.length → 0 ≤ c.getD q (-1) → 0 ≤ cs.getD q (-1) ∧ (c.getD q (-1)).toNat < (fct t.fcs (cs.getD q (-1)).toNat).members.length
theorem chok_snoc {cs c : List Int} {v : Int} (h : ChOk t cs c) (hv : 0 ≤ v → 0 ≤ cs.getD c.length (-1) ∧ v.toNat < (fct t.fcs (cs.getD c.length (-1)).toNat).members.length) : ChOk t cs (c ++ [v]) := fun q hq h0 => by
  by_cases hc : q < c.length
  · rw [show (c ++ [v]).getD q (-1) = c.getD q (-1) by simp [List.getD, List.getElem?_append_left hc]] at h0 ⊢
    exact h q hc h0
  · obtain rfl : q = c.length := by simp at hq; omega
    rw [show (c ++ [v]).getD c.length (-1) = v by simp [List.getD]] at h0 ⊢
    exact hv h0
theorem ch_valid (cs : List Int) : ∀ (n : Nat) (c : List Int) (many : Int) (s : List Span), ChOk t cs c → ∀ x ∈ chS t cs n c many s, ChOk t cs x.1
  | 0, c, many, s, hc, x, hx => by
    unfold chS at hx
    split at hx
    · obtain rfl : x = (c, s) := by simpa using hx
      exact hc
    · simp at hx
  | n + 1, c, many, s, hc, x, hx => by
    rw [chS] at hx
    rcases List.mem_append.1 hx with hx | hx
    · exact ch_valid cs n _ _ _ (chok_snoc hc (fun h => absurd h (by decide))) x hx
    · split at hx
      · cases hx
      · next hk =>
        obtain ⟨m, hm, hx⟩ := List.mem_flatMap.1 hx
        exact ch_valid cs n _ _ _ (chok_snoc hc (fun _ => ⟨by omega, by simpa using hm⟩)) x hx
theorem cho_valid {x : List Int × List Span} (hx : x ∈ choS t now) : ChOk t (curS t now) x.1 := ch_valid _ _ _ _ _ (fun q hq => absurd hq (Nat.not_lt_zero _)) x hx
theorem cho_left {x : List Int × List Span} (hx : x ∈ choS t now) : x.2 = leftN t (curS t now) x.1 (baseS t now) x.1.length := ch_snd (curS t now) (baseS t now) _ [] _ x hx
theorem left_skip {cs c : List Int} {s : List Span} {k : Nat} (h : c.getD k (-1) < 0) : leftN t cs c s (k + 1) = leftN t cs c s k := by rw [leftN]; unfold leftK; rw [if_pos h]
theorem left_meet {cs c : List Int} {s : List Span} {k : Nat} (h : ¬ c.getD k (-1) < 0) : leftN t cs c s (k + 1) = meetS (leftN t cs c s k) (tubeS t (fct t.fcs (cs.getD k (-1)).toNat) (mem (fct t.fcs (cs.getD k (-1)).toNat) (c.getD k (-1)).toNat)) := by rw [leftN]; unfold leftK; rw [if_neg h]
theorem leftN_lbd (h : SgOk t) {c : List Int} (hc : ChOk t (curS t now) c) (hl : c.length = t.ctrs.length) : ∀ k, k ≤ c.length → LBd 40000000 (leftN t (curS t now) c (baseS t now) k)
  | 0, _ => baseS_lbd h now
  | k + 1, hk => by
    by_cases hn : c.getD k (-1) < 0
    · rw [left_skip hn]; exact leftN_lbd h hc hl k (by omega)
    · rw [left_meet hn]
      obtain ⟨h0, h1⟩ := hc k (by omega) (by omega)
      rw [cur_at (by omega)] at h0 h1 ⊢
      exact meet_sbd (by rw [leftN_len _ _ (baseS_len t now), tubeS_len]) (leftN_lbd h hc hl k (by omega)) (tubeS_lbd h (cur_fct h h0).2 h1)
theorem box_snoc {k : Nat} {x : List Int × List Span} (h : (choS t now)[k]? = some x) : boxL t ((choS t now).take (k + 1)) = boxL t ((choS t now).take k) ++ if someT t.rate x.2 = true then [⟨x.1, tightS t.rate x.2⟩] else [] := by
  rw [take_snoc h, boxL_snoc]
theorem box_bd (h : SgOk t) {k : Nat} : (boxL t ((choS t now).take k)).length ≤ 625 := by
  have h1 := cho_bd (now := now) h
  have h2 : (boxL t ((choS t now).take k)).length ≤ ((choS t now).take k).length := boxL_len
  rw [List.length_take] at h2
  omega
theorem need_nn2 (h : SgOk t) : 0 ≤ needS t now := by
  have := h.nums4.2.2.2
  unfold needS; omega
theorem rch_fst : rchS t (curS t now) t.ctrs.length [] (needS t now) = (choS t now).map (·.1) := (ch_fst _ _ _ _ _).symm
theorem rrow_at {w : World} : ∀ {vs : List Value} {l : List (List Int)}, Bx.Rows w 1 RRow (vs.map fun v => [v]) l → ∀ {i : Nat} {v : Value} {x : List Int}, vs[i]? = some v → l[i]? = some x → Sl w 1 RInt v x
  | v :: vs, x :: l, ⟨_, h2, _⟩, 0, _, _, hv, hx => by
    obtain rfl := Option.some.inj hv
    obtain rfl := Option.some.inj hx
    obtain ⟨u, e, hs⟩ := h2
    obtain rfl : v = u := by simpa using e
    exact hs
  | _ :: _, _ :: _, ⟨_, _, h3⟩, _ + 1, _, _, hv, hx => rrow_at h3 hv hx
theorem spn_cell {w : World} {b o n c : Nat} {l : List Span} (h : Sl w 2 RSpan (.slice (some ⟨b, o, none⟩) n c) l) {i : Nat} (hi : i < l.length) : Cells w b (o + i * 2) (spanC (spn l i)) := by
  obtain ⟨b', o', cs, h1, h2, h3, h4, -⟩ := sl_at h (spn_get hi)
  cases h1
  obtain ⟨rfl, -⟩ := h4
  exact h3
end
end Bx

/- part RdF -/
namespace Go.Proofs.YtgidbailiababaaGreatDoor
open Go Bx
section
variable {H : Type} {enc : TypeId × Value → H} {w : World} {base : Nat} {spare : Nat → Bool} {held : Bool} {fuel : Nat} {cs : List Value} {x : DataW H × List MemPlace}
theorem rdF24 (h : DataW.trod enc Tryz.prog w base spare held fuel 24 cs = some x) (hW : WOk Tryz.prog 24 x.1) : ∃ n c0 c1, cs = [c0, c1] ∧ (∃ y, DataW.trod enc Tryz.prog w base spare held n 3 [c0] = some y ∧ WOk Tryz.prog 3 y.1) ∧ (∃ y, DataW.trod enc Tryz.prog w base spare held n 22 [c1] = some y ∧ WOk Tryz.prog 22 y.1) := by
  have z3 : Tryz.prog.cellsOf 3 = 1 := by kernel_rfl
  have z22 : Tryz.prog.cellsOf 22 = 1 := by kernel_rfl
  obtain ⟨hl, n, hf⟩ := rdw_fields Tryz.underlying24 h hW
  have hz : Tryz.prog.cellsOf 24 = 2 := by kernel_rfl
  rw [hz] at hl
  obtain ⟨c0, c1, rfl⟩ := two_of hl
  have f0 : ∃ y, DataW.trod enc Tryz.prog w base spare held n 3 ((List.drop 0 [c0, c1]).take (Tryz.prog.cellsOf 3)) = some y ∧ WOk Tryz.prog 3 y.1 := hf 0 _ rfl
  rw [z3] at f0
  have f1 : ∃ y, DataW.trod enc Tryz.prog w base spare held n 22 ((List.drop 1 [c0, c1]).take (Tryz.prog.cellsOf 22)) = some y ∧ WOk Tryz.prog 22 y.1 := hf 1 _ rfl
  rw [z22] at f1
  exact ⟨n, c0, c1, rfl, f0, f1⟩
theorem rdLen12_of {cs : List Value} (h : cs.length = 12) : ∃ c0 c1 c2 c3 c4 c5 c6 c7 c8 c9 c10 c11, cs = [c0, c1, c2, c3, c4, c5, c6, c7, c8, c9, c10, c11] := by
  match cs, h with
  | [c0, c1, c2, c3, c4, c5, c6, c7, c8, c9, c10, c11], _ => exact ⟨c0, c1, c2, c3, c4, c5, c6, c7, c8, c9, c10, c11, rfl⟩
theorem rdF29 (h : DataW.trod enc Tryz.prog w base spare held fuel 29 cs = some x) (hW : WOk Tryz.prog 29 x.1) : ∃ n c0 c1 c2 c3 c4 c5 c6 c7 c8 c9 c10 c11, cs = [c0, c1, c2, c3, c4, c5, c6, c7, c8, c9, c10, c11] ∧ (∃ y, DataW.trod enc Tryz.prog w base spare held n 24 [c0, c1] = some y ∧ WOk Tryz.prog 24 y.1) ∧ (∃ y, DataW.trod enc Tryz.prog w base spare held n 25 [c2] = some y ∧ WOk Tryz.prog 25 y.1) ∧ (∃ y, DataW.trod enc Tryz.prog w base spare held n 3 [c3] = some y ∧ WOk Tryz.prog 3 y.1) ∧ (∃ y, DataW.trod enc Tryz.prog w base spare held n 3 [c4] = some y ∧ WOk Tryz.prog 3 y.1) ∧ (∃ y, DataW.trod enc Tryz.prog w base spare held n 3 [c5] = some y ∧ WOk Tryz.prog 3 y.1) ∧ (∃ y, DataW.trod enc Tryz.prog w base spare held n 26 [c6] = some y ∧ WOk Tryz.prog 26 y.1) ∧ (∃ y, DataW.trod enc Tryz.prog w base spare held n 27 [c7] = some y ∧ WOk Tryz.prog 27 y.1) ∧ (∃ y, DataW.trod enc Tryz.prog w base spare held n 3 [c8] = some y ∧ WOk Tryz.prog 3 y.1) ∧ (∃ y, DataW.trod enc Tryz.prog w base spare held n 3 [c9] = some y ∧ WOk Tryz.prog 3 y.1) ∧ (∃ y, DataW.trod enc Tryz.prog w base spare held n 3 [c10] = some y ∧ WOk Tryz.prog 3 y.1) ∧ (∃ y, DataW.trod enc Tryz.prog w base spare held n 3 [c11] = some y ∧ WOk Tryz.prog 3 y.1) := by
  have z3 : Tryz.prog.cellsOf 3 = 1 := by kernel_rfl
  have z24 : Tryz.prog.cellsOf 24 = 2 := by kernel_rfl
  have z25 : Tryz.prog.cellsOf 25 = 1 := by kernel_rfl
  have z26 : Tryz.prog.cellsOf 26 = 1 := by kernel_rfl
  have z27 : Tryz.prog.cellsOf 27 = 1 := by kernel_rfl
  obtain ⟨hl, n, hf⟩ := rdw_fields Tryz.underlying29 h hW
  have hz : Tryz.prog.cellsOf 29 = 12 := by kernel_rfl
  rw [hz] at hl
  obtain ⟨c0, c1, c2, c3, c4, c5, c6, c7, c8, c9, c10, c11, rfl⟩ := rdLen12_of hl
  have f0 : ∃ y, DataW.trod enc Tryz.prog w base spare held n 24 ((List.drop 0 [c0, c1, c2, c3, c4, c5, c6, c7, c8, c9, c10, c11]).take (Tryz.prog.cellsOf 24)) = some y ∧ WOk Tryz.prog 24 y.1 := hf 0 _ rfl
  rw [z24] at f0
  have f1 : ∃ y, DataW.trod enc Tryz.prog w base spare held n 25 ((List.drop 2 [c0, c1, c2, c3, c4, c5, c6, c7, c8, c9, c10, c11]).take (Tryz.prog.cellsOf 25)) = some y ∧ WOk Tryz.prog 25 y.1 := hf 1 _ rfl
  rw [z25] at f1
  have f2 : ∃ y, DataW.trod enc Tryz.prog w base spare held n 3 ((List.drop 3 [c0, c1, c2, c3, c4, c5, c6, c7, c8, c9, c10, c11]).take (Tryz.prog.cellsOf 3)) = some y ∧ WOk Tryz.prog 3 y.1 := hf 2 _ rfl
  rw [z3] at f2
  have f3 : ∃ y, DataW.trod enc Tryz.prog w base spare held n 3 ((List.drop 4 [c0, c1, c2, c3, c4, c5, c6, c7, c8, c9, c10, c11]).take (Tryz.prog.cellsOf 3)) = some y ∧ WOk Tryz.prog 3 y.1 := hf 3 _ rfl
  rw [z3] at f3
  have f4 : ∃ y, DataW.trod enc Tryz.prog w base spare held n 3 ((List.drop 5 [c0, c1, c2, c3, c4, c5, c6, c7, c8, c9, c10, c11]).take (Tryz.prog.cellsOf 3)) = some y ∧ WOk Tryz.prog 3 y.1 := hf 4 _ rfl
  rw [z3] at f4
  have f5 : ∃ y, DataW.trod enc Tryz.prog w base spare held n 26 ((List.drop 6 [c0, c1, c2, c3, c4, c5, c6, c7, c8, c9, c10, c11]).take (Tryz.prog.cellsOf 26)) = some y ∧ WOk Tryz.prog 26 y.1 := hf 5 _ rfl
  rw [z26] at f5
  have f6 : ∃ y, DataW.trod enc Tryz.prog w base spare held n 27 ((List.drop 7 [c0, c1, c2, c3, c4, c5, c6, c7, c8, c9, c10, c11]).take (Tryz.prog.cellsOf 27)) = some y ∧ WOk Tryz.prog 27 y.1 := hf 6 _ rfl
  rw [z27] at f6
  have f7 : ∃ y, DataW.trod enc Tryz.prog w base spare held n 3 ((List.drop 8 [c0, c1, c2, c3, c4, c5, c6, c7, c8, c9, c10, c11]).take (Tryz.prog.cellsOf 3)) = some y ∧ WOk Tryz.prog 3 y.1 := hf 7 _ rfl
  rw [z3] at f7
  have f8 : ∃ y, DataW.trod enc Tryz.prog w base spare held n 3 ((List.drop 9 [c0, c1, c2, c3, c4, c5, c6, c7, c8, c9, c10, c11]).take (Tryz.prog.cellsOf 3)) = some y ∧ WOk Tryz.prog 3 y.1 := hf 8 _ rfl
  rw [z3] at f8
  have f9 : ∃ y, DataW.trod enc Tryz.prog w base spare held n 3 ((List.drop 10 [c0, c1, c2, c3, c4, c5, c6, c7, c8, c9, c10, c11]).take (Tryz.prog.cellsOf 3)) = some y ∧ WOk Tryz.prog 3 y.1 := hf 9 _ rfl
  rw [z3] at f9
  have f10 : ∃ y, DataW.trod enc Tryz.prog w base spare held n 3 ((List.drop 11 [c0, c1, c2, c3, c4, c5, c6, c7, c8, c9, c10, c11]).take (Tryz.prog.cellsOf 3)) = some y ∧ WOk Tryz.prog 3 y.1 := hf 10 _ rfl
  rw [z3] at f10
  exact ⟨n, c0, c1, c2, c3, c4, c5, c6, c7, c8, c9, c10, c11, rfl, f0, f1, f2, f3, f4, f5, f6, f7, f8, f9, f10⟩
theorem rdF57 (h : DataW.trod enc Tryz.prog w base spare held fuel 57 cs = some x) (hW : WOk Tryz.prog 57 x.1) : ∃ n c0 c1 c2 c3, cs = [c0, c1, c2, c3] ∧ (∃ y, DataW.trod enc Tryz.prog w base spare held n 9 [c0] = some y ∧ WOk Tryz.prog 9 y.1) ∧ (∃ y, DataW.trod enc Tryz.prog w base spare held n 3 [c1] = some y ∧ WOk Tryz.prog 3 y.1) ∧ (∃ y, DataW.trod enc Tryz.prog w base spare held n 3 [c2] = some y ∧ WOk Tryz.prog 3 y.1) ∧ (∃ y, DataW.trod enc Tryz.prog w base spare held n 3 [c3] = some y ∧ WOk Tryz.prog 3 y.1) := by
  have z3 : Tryz.prog.cellsOf 3 = 1 := by kernel_rfl
  have z9 : Tryz.prog.cellsOf 9 = 1 := by kernel_rfl
  obtain ⟨hl, n, hf⟩ := rdw_fields Tryz.underlying57 h hW
  have hz : Tryz.prog.cellsOf 57 = 4 := by kernel_rfl
  rw [hz] at hl
  obtain ⟨c0, c1, c2, c3, rfl⟩ := four_of hl
  have f0 : ∃ y, DataW.trod enc Tryz.prog w base spare held n 9 ((List.drop 0 [c0, c1, c2, c3]).take (Tryz.prog.cellsOf 9)) = some y ∧ WOk Tryz.prog 9 y.1 := hf 0 _ rfl
  rw [z9] at f0
  have f1 : ∃ y, DataW.trod enc Tryz.prog w base spare held n 3 ((List.drop 1 [c0, c1, c2, c3]).take (Tryz.prog.cellsOf 3)) = some y ∧ WOk Tryz.prog 3 y.1 := hf 1 _ rfl
  rw [z3] at f1
  have f2 : ∃ y, DataW.trod enc Tryz.prog w base spare held n 3 ((List.drop 2 [c0, c1, c2, c3]).take (Tryz.prog.cellsOf 3)) = some y ∧ WOk Tryz.prog 3 y.1 := hf 2 _ rfl
  rw [z3] at f2
  have f3 : ∃ y, DataW.trod enc Tryz.prog w base spare held n 3 ((List.drop 3 [c0, c1, c2, c3]).take (Tryz.prog.cellsOf 3)) = some y ∧ WOk Tryz.prog 3 y.1 := hf 3 _ rfl
  rw [z3] at f3
  exact ⟨n, c0, c1, c2, c3, rfl, f0, f1, f2, f3⟩
theorem rdF61 (h : DataW.trod enc Tryz.prog w base spare held fuel 61 cs = some x) (hW : WOk Tryz.prog 61 x.1) : ∃ n c0 c1 c2 c3, cs = [c0, c1, c2, c3] ∧ (∃ y, DataW.trod enc Tryz.prog w base spare held n 3 [c0] = some y ∧ WOk Tryz.prog 3 y.1) ∧ (∃ y, DataW.trod enc Tryz.prog w base spare held n 3 [c1] = some y ∧ WOk Tryz.prog 3 y.1) ∧ (∃ y, DataW.trod enc Tryz.prog w base spare held n 3 [c2] = some y ∧ WOk Tryz.prog 3 y.1) ∧ (∃ y, DataW.trod enc Tryz.prog w base spare held n 59 [c3] = some y ∧ WOk Tryz.prog 59 y.1) := by
  have z3 : Tryz.prog.cellsOf 3 = 1 := by kernel_rfl
  have z59 : Tryz.prog.cellsOf 59 = 1 := by kernel_rfl
  obtain ⟨hl, n, hf⟩ := rdw_fields Tryz.underlying61 h hW
  have hz : Tryz.prog.cellsOf 61 = 4 := by kernel_rfl
  rw [hz] at hl
  obtain ⟨c0, c1, c2, c3, rfl⟩ := four_of hl
  have f0 : ∃ y, DataW.trod enc Tryz.prog w base spare held n 3 ((List.drop 0 [c0, c1, c2, c3]).take (Tryz.prog.cellsOf 3)) = some y ∧ WOk Tryz.prog 3 y.1 := hf 0 _ rfl
  rw [z3] at f0
  have f1 : ∃ y, DataW.trod enc Tryz.prog w base spare held n 3 ((List.drop 1 [c0, c1, c2, c3]).take (Tryz.prog.cellsOf 3)) = some y ∧ WOk Tryz.prog 3 y.1 := hf 1 _ rfl
  rw [z3] at f1
  have f2 : ∃ y, DataW.trod enc Tryz.prog w base spare held n 3 ((List.drop 2 [c0, c1, c2, c3]).take (Tryz.prog.cellsOf 3)) = some y ∧ WOk Tryz.prog 3 y.1 := hf 2 _ rfl
  rw [z3] at f2
  have f3 : ∃ y, DataW.trod enc Tryz.prog w base spare held n 59 ((List.drop 3 [c0, c1, c2, c3]).take (Tryz.prog.cellsOf 59)) = some y ∧ WOk Tryz.prog 59 y.1 := hf 3 _ rfl
  rw [z59] at f3
  exact ⟨n, c0, c1, c2, c3, rfl, f0, f1, f2, f3⟩
theorem rdF68 (h : DataW.trod enc Tryz.prog w base spare held fuel 68 cs = some x) (hW : WOk Tryz.prog 68 x.1) : ∃ n c0 c1 c2 c3 c4, cs = [c0, c1, c2, c3, c4] ∧ (∃ y, DataW.trod enc Tryz.prog w base spare held n 9 [c0] = some y ∧ WOk Tryz.prog 9 y.1) ∧ (∃ y, DataW.trod enc Tryz.prog w base spare held n 3 [c1] = some y ∧ WOk Tryz.prog 3 y.1) ∧ (∃ y, DataW.trod enc Tryz.prog w base spare held n 3 [c2] = some y ∧ WOk Tryz.prog 3 y.1) ∧ (∃ y, DataW.trod enc Tryz.prog w base spare held n 65 [c3] = some y ∧ WOk Tryz.prog 65 y.1) ∧ (∃ y, DataW.trod enc Tryz.prog w base spare held n 66 [c4] = some y ∧ WOk Tryz.prog 66 y.1) := by
  have z3 : Tryz.prog.cellsOf 3 = 1 := by kernel_rfl
  have z9 : Tryz.prog.cellsOf 9 = 1 := by kernel_rfl
  have z65 : Tryz.prog.cellsOf 65 = 1 := by kernel_rfl
  have z66 : Tryz.prog.cellsOf 66 = 1 := by kernel_rfl
  obtain ⟨hl, n, hf⟩ := rdw_fields Tryz.underlying68 h hW
  have hz : Tryz.prog.cellsOf 68 = 5 := by kernel_rfl
  rw [hz] at hl
  obtain ⟨c0, c1, c2, c3, c4, rfl⟩ := five_of hl
  have f0 : ∃ y, DataW.trod enc Tryz.prog w base spare held n 9 ((List.drop 0 [c0, c1, c2, c3, c4]).take (Tryz.prog.cellsOf 9)) = some y ∧ WOk Tryz.prog 9 y.1 := hf 0 _ rfl
  rw [z9] at f0
  have f1 : ∃ y, DataW.trod enc Tryz.prog w base spare held n 3 ((List.drop 1 [c0, c1, c2, c3, c4]).take (Tryz.prog.cellsOf 3)) = some y ∧ WOk Tryz.prog 3 y.1 := hf 1 _ rfl
  rw [z3] at f1
  have f2 : ∃ y, DataW.trod enc Tryz.prog w base spare held n 3 ((List.drop 2 [c0, c1, c2, c3, c4]).take (Tryz.prog.cellsOf 3)) = some y ∧ WOk Tryz.prog 3 y.1 := hf 2 _ rfl
  rw [z3] at f2
  have f3 : ∃ y, DataW.trod enc Tryz.prog w base spare held n 65 ((List.drop 3 [c0, c1, c2, c3, c4]).take (Tryz.prog.cellsOf 65)) = some y ∧ WOk Tryz.prog 65 y.1 := hf 3 _ rfl
  rw [z65] at f3
  have f4 : ∃ y, DataW.trod enc Tryz.prog w base spare held n 66 ((List.drop 4 [c0, c1, c2, c3, c4]).take (Tryz.prog.cellsOf 66)) = some y ∧ WOk Tryz.prog 66 y.1 := hf 4 _ rfl
  rw [z66] at f4
  exact ⟨n, c0, c1, c2, c3, c4, rfl, f0, f1, f2, f3, f4⟩
theorem rdF70 (h : DataW.trod enc Tryz.prog w base spare held fuel 70 cs = some x) (hW : WOk Tryz.prog 70 x.1) : ∃ n c0 c1, cs = [c0, c1] ∧ (∃ y, DataW.trod enc Tryz.prog w base spare held n 3 [c0] = some y ∧ WOk Tryz.prog 3 y.1) ∧ (∃ y, DataW.trod enc Tryz.prog w base spare held n 3 [c1] = some y ∧ WOk Tryz.prog 3 y.1) := by
  have z3 : Tryz.prog.cellsOf 3 = 1 := by kernel_rfl
  obtain ⟨hl, n, hf⟩ := rdw_fields Tryz.underlying70 h hW
  have hz : Tryz.prog.cellsOf 70 = 2 := by kernel_rfl
  rw [hz] at hl
  obtain ⟨c0, c1, rfl⟩ := two_of hl
  have f0 : ∃ y, DataW.trod enc Tryz.prog w base spare held n 3 ((List.drop 0 [c0, c1]).take (Tryz.prog.cellsOf 3)) = some y ∧ WOk Tryz.prog 3 y.1 := hf 0 _ rfl
  rw [z3] at f0
  have f1 : ∃ y, DataW.trod enc Tryz.prog w base spare held n 3 ((List.drop 1 [c0, c1]).take (Tryz.prog.cellsOf 3)) = some y ∧ WOk Tryz.prog 3 y.1 := hf 1 _ rfl
  rw [z3] at f1
  exact ⟨n, c0, c1, rfl, f0, f1⟩
theorem rdF74 (h : DataW.trod enc Tryz.prog w base spare held fuel 74 cs = some x) (hW : WOk Tryz.prog 74 x.1) : ∃ n c0 c1, cs = [c0, c1] ∧ (∃ y, DataW.trod enc Tryz.prog w base spare held n 3 [c0] = some y ∧ WOk Tryz.prog 3 y.1) ∧ (∃ y, DataW.trod enc Tryz.prog w base spare held n 3 [c1] = some y ∧ WOk Tryz.prog 3 y.1) := by
  have z3 : Tryz.prog.cellsOf 3 = 1 := by kernel_rfl
  obtain ⟨hl, n, hf⟩ := rdw_fields Tryz.underlying74 h hW
  have hz : Tryz.prog.cellsOf 74 = 2 := by kernel_rfl
  rw [hz] at hl
  obtain ⟨c0, c1, rfl⟩ := two_of hl
  have f0 : ∃ y, DataW.trod enc Tryz.prog w base spare held n 3 ((List.drop 0 [c0, c1]).take (Tryz.prog.cellsOf 3)) = some y ∧ WOk Tryz.prog 3 y.1 := hf 0 _ rfl
  rw [z3] at f0
  have f1 : ∃ y, DataW.trod enc Tryz.prog w base spare held n 3 ((List.drop 1 [c0, c1]).take (Tryz.prog.cellsOf 3)) = some y ∧ WOk Tryz.prog 3 y.1 := hf 1 _ rfl
  rw [z3] at f1
  exact ⟨n, c0, c1, rfl, f0, f1⟩
theorem rdF196 (h : DataW.trod enc Tryz.prog w base spare held fuel 196 cs = some x) (hW : WOk Tryz.prog 196 x.1) : ∃ n c0 c1 c2 c3 c4 c5, cs = [c0, c1, c2, c3, c4, c5] ∧ (∃ y, DataW.trod enc Tryz.prog w base spare held n 9 [c0] = some y ∧ WOk Tryz.prog 9 y.1) ∧ (∃ y, DataW.trod enc Tryz.prog w base spare held n 39 [c1] = some y ∧ WOk Tryz.prog 39 y.1) ∧ (∃ y, DataW.trod enc Tryz.prog w base spare held n 3 [c2] = some y ∧ WOk Tryz.prog 3 y.1) ∧ (∃ y, DataW.trod enc Tryz.prog w base spare held n 3 [c3] = some y ∧ WOk Tryz.prog 3 y.1) ∧ (∃ y, DataW.trod enc Tryz.prog w base spare held n 3 [c4] = some y ∧ WOk Tryz.prog 3 y.1) ∧ (∃ y, DataW.trod enc Tryz.prog w base spare held n 3 [c5] = some y ∧ WOk Tryz.prog 3 y.1) := by
  have z3 : Tryz.prog.cellsOf 3 = 1 := by kernel_rfl
  have z9 : Tryz.prog.cellsOf 9 = 1 := by kernel_rfl
  have z39 : Tryz.prog.cellsOf 39 = 1 := by kernel_rfl
  obtain ⟨hl, n, hf⟩ := rdw_fields Tryz.underlying196 h hW
  have hz : Tryz.prog.cellsOf 196 = 6 := by kernel_rfl
  rw [hz] at hl
  obtain ⟨c0, c1, c2, c3, c4, c5, rfl⟩ := six_of hl
  have f0 : ∃ y, DataW.trod enc Tryz.prog w base spare held n 9 ((List.drop 0 [c0, c1, c2, c3, c4, c5]).take (Tryz.prog.cellsOf 9)) = some y ∧ WOk Tryz.prog 9 y.1 := hf 0 _ rfl
  rw [z9] at f0
  have f1 : ∃ y, DataW.trod enc Tryz.prog w base spare held n 39 ((List.drop 1 [c0, c1, c2, c3, c4, c5]).take (Tryz.prog.cellsOf 39)) = some y ∧ WOk Tryz.prog 39 y.1 := hf 1 _ rfl
  rw [z39] at f1
  have f2 : ∃ y, DataW.trod enc Tryz.prog w base spare held n 3 ((List.drop 2 [c0, c1, c2, c3, c4, c5]).take (Tryz.prog.cellsOf 3)) = some y ∧ WOk Tryz.prog 3 y.1 := hf 2 _ rfl
  rw [z3] at f2
  have f3 : ∃ y, DataW.trod enc Tryz.prog w base spare held n 3 ((List.drop 3 [c0, c1, c2, c3, c4, c5]).take (Tryz.prog.cellsOf 3)) = some y ∧ WOk Tryz.prog 3 y.1 := hf 3 _ rfl
  rw [z3] at f3
  have f4 : ∃ y, DataW.trod enc Tryz.prog w base spare held n 3 ((List.drop 4 [c0, c1, c2, c3, c4, c5]).take (Tryz.prog.cellsOf 3)) = some y ∧ WOk Tryz.prog 3 y.1 := hf 4 _ rfl
  rw [z3] at f4
  have f5 : ∃ y, DataW.trod enc Tryz.prog w base spare held n 3 ((List.drop 5 [c0, c1, c2, c3, c4, c5]).take (Tryz.prog.cellsOf 3)) = some y ∧ WOk Tryz.prog 3 y.1 := hf 5 _ rfl
  rw [z3] at f5
  exact ⟨n, c0, c1, c2, c3, c4, c5, rfl, f0, f1, f2, f3, f4, f5⟩
theorem rdF205 (h : DataW.trod enc Tryz.prog w base spare held fuel 205 cs = some x) (hW : WOk Tryz.prog 205 x.1) : ∃ n c0 c1 c2, cs = [c0, c1, c2] ∧ (∃ y, DataW.trod enc Tryz.prog w base spare held n 3 [c0] = some y ∧ WOk Tryz.prog 3 y.1) ∧ (∃ y, DataW.trod enc Tryz.prog w base spare held n 74 [c1, c2] = some y ∧ WOk Tryz.prog 74 y.1) := by
  have z3 : Tryz.prog.cellsOf 3 = 1 := by kernel_rfl
  have z74 : Tryz.prog.cellsOf 74 = 2 := by kernel_rfl
  obtain ⟨hl, n, hf⟩ := rdw_fields Tryz.underlying205 h hW
  have hz : Tryz.prog.cellsOf 205 = 3 := by kernel_rfl
  rw [hz] at hl
  obtain ⟨c0, c1, c2, rfl⟩ := three_of hl
  have f0 : ∃ y, DataW.trod enc Tryz.prog w base spare held n 3 ((List.drop 0 [c0, c1, c2]).take (Tryz.prog.cellsOf 3)) = some y ∧ WOk Tryz.prog 3 y.1 := hf 0 _ rfl
  rw [z3] at f0
  have f1 : ∃ y, DataW.trod enc Tryz.prog w base spare held n 74 ((List.drop 1 [c0, c1, c2]).take (Tryz.prog.cellsOf 74)) = some y ∧ WOk Tryz.prog 74 y.1 := hf 1 _ rfl
  rw [z74] at f1
  exact ⟨n, c0, c1, c2, rfl, f0, f1⟩
end
end Go.Proofs.YtgidbailiababaaGreatDoor

/- part Rd1 -/
namespace Go.Proofs.YtgidbailiababaaGreatDoor
open Go Bx
theorem rd_Ints : RdW Tryz.prog 39 (fun w cs (l : List Int) => ∃ v, cs = [v] ∧ Sl w 1 RInt v l ∧ l.length * 8 ≤ 140737488351232) := rdw_slice (Rd.w (rd_int Tryz.underlying3)) (by kernel_rfl) (by decide) Tryz.underlying39 (by kernel_rfl)
theorem rd_Row : RdW Tryz.prog 39 RRow := fun H enc w base spare held fuel cs x h hW => by obtain ⟨a, v, e, i, -⟩ := rd_Ints H enc w base spare held fuel cs x h hW; exact ⟨a, v, e, i⟩
theorem rd_Rows : RdW Tryz.prog 59 (fun w cs (l : List (List Int)) => ∃ v, cs = [v] ∧ Sl w 1 RRow v l ∧ l.length * 24 ≤ 140737488351232) := rdw_slice rd_Row (by kernel_rfl) (by decide) Tryz.underlying59 (by kernel_rfl)
theorem rd_Span : RdW Tryz.prog 74 RSpan := by
  intro H enc w base spare held fuel cs x h hW
  obtain ⟨n, c0, c1, rfl, ⟨y0, f0, k0⟩, ⟨y1, f1, k1⟩⟩ := rdF74 h hW
  obtain ⟨a0, g0⟩ := (Rd.w (rd_int Tryz.underlying3)) _ _ _ _ _ _ _ _ _ f0 k0
  obtain ⟨a1, g1⟩ := (Rd.w (rd_int Tryz.underlying3)) _ _ _ _ _ _ _ _ _ f1 k1
  obtain ⟨e0, i0⟩ := g0; obtain ⟨e1, i1⟩ := g1; cases e0; cases e1; exact ⟨⟨a0, a1⟩, rfl, i0, i1⟩
theorem rd_Datum : RdW Tryz.prog 205 RDatum := by
  intro H enc w base spare held fuel cs x h hW
  obtain ⟨n, c0, c1, c2, rfl, ⟨y0, f0, k0⟩, ⟨y1, f1, k1⟩⟩ := rdF205 h hW
  obtain ⟨a0, g0⟩ := (Rd.w (rd_int Tryz.underlying3)) _ _ _ _ _ _ _ _ _ f0 k0
  obtain ⟨a1, g1⟩ := rd_Span _ _ _ _ _ _ _ _ _ f1 k1
  obtain ⟨e0, i0⟩ := g0; obtain ⟨e1, i1, i2⟩ := g1; cases e0; cases e1; exact ⟨⟨a0, a1⟩, rfl, i0, i1, i2⟩
theorem rd_Datums : RdW Tryz.prog 65 (fun w cs (l : List Datum) => ∃ v, cs = [v] ∧ Sl w 3 RDatum v l ∧ l.length * 24 ≤ 140737488351232) := rdw_slice rd_Datum (by kernel_rfl) (by decide) Tryz.underlying65 (by kernel_rfl)
theorem rd_Reading : RdW Tryz.prog 70 RRead := by
  intro H enc w base spare held fuel cs x h hW
  obtain ⟨n, c0, c1, rfl, ⟨y0, f0, k0⟩, ⟨y1, f1, k1⟩⟩ := rdF70 h hW
  obtain ⟨a0, g0⟩ := (Rd.w (rd_int Tryz.underlying3)) _ _ _ _ _ _ _ _ _ f0 k0
  obtain ⟨a1, g1⟩ := (Rd.w (rd_int Tryz.underlying3)) _ _ _ _ _ _ _ _ _ f1 k1
  obtain ⟨e0, i0⟩ := g0; obtain ⟨e1, i1⟩ := g1; cases e0; cases e1; exact ⟨⟨a0, a1⟩, rfl, i0, i1⟩
theorem rd_Readings : RdW Tryz.prog 66 (fun w cs (l : List Reading) => ∃ v, cs = [v] ∧ Sl w 2 RRead v l ∧ l.length * 16 ≤ 140737488351232) := rdw_slice rd_Reading (by kernel_rfl) (by decide) Tryz.underlying66 (by kernel_rfl)
theorem rd_Gauge : RdW Tryz.prog 68 RGauge := by
  intro H enc w base spare held fuel cs x h hW
  obtain ⟨n, c0, c1, c2, c3, c4, rfl, ⟨y0, f0, k0⟩, ⟨y1, f1, k1⟩, ⟨y2, f2, k2⟩, ⟨y3, f3, k3⟩, ⟨y4, f4, k4⟩⟩ := rdF68 h hW
  obtain ⟨a0, g0⟩ := (Rd.w (rd_str Tryz.underlying9)) _ _ _ _ _ _ _ _ _ f0 k0
  obtain ⟨a1, g1⟩ := (Rd.w (rd_int Tryz.underlying3)) _ _ _ _ _ _ _ _ _ f1 k1
  obtain ⟨a2, g2⟩ := (Rd.w (rd_int Tryz.underlying3)) _ _ _ _ _ _ _ _ _ f2 k2
  obtain ⟨a3, g3⟩ := rd_Datums _ _ _ _ _ _ _ _ _ f3 k3
  obtain ⟨a4, g4⟩ := rd_Readings _ _ _ _ _ _ _ _ _ f4 k4
  obtain ⟨e0, i0⟩ := g0; obtain ⟨e1, i1⟩ := g1; obtain ⟨e2, i2⟩ := g2; obtain ⟨v3, e3, i3, r3⟩ := g3; obtain ⟨v4, e4, i4, r4⟩ := g4; cases e0; cases e1; cases e2; cases e3; cases e4; exact ⟨⟨a0, a1, a2, a3, a4⟩, _, _, rfl, i0, i1, i2, i3, i4⟩
theorem rd_Gauges : RdW Tryz.prog 25 (fun w cs (l : List Gauge) => ∃ v, cs = [v] ∧ Sl w 5 RGauge v l ∧ l.length * 80 ≤ 140737488351232) := rdw_slice rd_Gauge (by kernel_rfl) (by decide) Tryz.underlying25 (by kernel_rfl)
theorem rd_Const : RdW Tryz.prog 196 RConst := by
  intro H enc w base spare held fuel cs x h hW
  obtain ⟨n, c0, c1, c2, c3, c4, c5, rfl, ⟨y0, f0, k0⟩, ⟨y1, f1, k1⟩, ⟨y2, f2, k2⟩, ⟨y3, f3, k3⟩, ⟨y4, f4, k4⟩, ⟨y5, f5, k5⟩⟩ := rdF196 h hW
  obtain ⟨a0, g0⟩ := (Rd.w (rd_str Tryz.underlying9)) _ _ _ _ _ _ _ _ _ f0 k0
  obtain ⟨a1, g1⟩ := rd_Ints _ _ _ _ _ _ _ _ _ f1 k1
  obtain ⟨a2, g2⟩ := (Rd.w (rd_int Tryz.underlying3)) _ _ _ _ _ _ _ _ _ f2 k2
  obtain ⟨a3, g3⟩ := (Rd.w (rd_int Tryz.underlying3)) _ _ _ _ _ _ _ _ _ f3 k3
  obtain ⟨a4, g4⟩ := (Rd.w (rd_int Tryz.underlying3)) _ _ _ _ _ _ _ _ _ f4 k4
  obtain ⟨a5, g5⟩ := (Rd.w (rd_int Tryz.underlying3)) _ _ _ _ _ _ _ _ _ f5 k5
  obtain ⟨e0, i0⟩ := g0; obtain ⟨e2, i2⟩ := g2; obtain ⟨e3, i3⟩ := g3; obtain ⟨e4, i4⟩ := g4; obtain ⟨e5, i5⟩ := g5; obtain ⟨v1, e1, i1, r1⟩ := g1; cases e0; cases e1; cases e2; cases e3; cases e4; cases e5; exact ⟨⟨a0, a1, a2, a3, a4, a5⟩, _, rfl, i0, i1, i2, i3, i4, i5⟩
theorem rd_Consts : RdW Tryz.prog 22 (fun w cs (l : List Const) => ∃ v, cs = [v] ∧ Sl w 6 RConst v l ∧ l.length * 72 ≤ 140737488351232) := rdw_slice rd_Const (by kernel_rfl) (by decide) Tryz.underlying22 (by kernel_rfl)
theorem rd_Table : RdW Tryz.prog 24 RTable := by
  intro H enc w base spare held fuel cs x h hW
  obtain ⟨n, c0, c1, rfl, ⟨y0, f0, k0⟩, ⟨y1, f1, k1⟩⟩ := rdF24 h hW
  obtain ⟨a0, g0⟩ := (Rd.w (rd_int Tryz.underlying3)) _ _ _ _ _ _ _ _ _ f0 k0
  obtain ⟨a1, g1⟩ := rd_Consts _ _ _ _ _ _ _ _ _ f1 k1
  obtain ⟨e0, i0⟩ := g0; obtain ⟨v1, e1, i1, r1⟩ := g1; cases e0; cases e1; exact ⟨⟨a0, a1⟩, _, rfl, i0, i1⟩
theorem rd_Ctr : RdW Tryz.prog 57 RCtr := by
  intro H enc w base spare held fuel cs x h hW
  obtain ⟨n, c0, c1, c2, c3, rfl, ⟨y0, f0, k0⟩, ⟨y1, f1, k1⟩, ⟨y2, f2, k2⟩, ⟨y3, f3, k3⟩⟩ := rdF57 h hW
  obtain ⟨a0, g0⟩ := (Rd.w (rd_str Tryz.underlying9)) _ _ _ _ _ _ _ _ _ f0 k0
  obtain ⟨a1, g1⟩ := (Rd.w (rd_int Tryz.underlying3)) _ _ _ _ _ _ _ _ _ f1 k1
  obtain ⟨a2, g2⟩ := (Rd.w (rd_int Tryz.underlying3)) _ _ _ _ _ _ _ _ _ f2 k2
  obtain ⟨a3, g3⟩ := (Rd.w (rd_int Tryz.underlying3)) _ _ _ _ _ _ _ _ _ f3 k3
  obtain ⟨e0, i0⟩ := g0; obtain ⟨e1, i1⟩ := g1; obtain ⟨e2, i2⟩ := g2; obtain ⟨e3, i3⟩ := g3; cases e0; cases e1; cases e2; cases e3; exact ⟨⟨a0, a1, a2, a3⟩, rfl, i0, i1, i2, i3⟩
theorem rd_Ctrs : RdW Tryz.prog 26 (fun w cs (l : List Ctr) => ∃ v, cs = [v] ∧ Sl w 4 RCtr v l ∧ l.length * 40 ≤ 140737488351232) := rdw_slice rd_Ctr (by kernel_rfl) (by decide) Tryz.underlying26 (by kernel_rfl)
theorem rd_Fct : RdW Tryz.prog 61 RFct := by
  intro H enc w base spare held fuel cs x h hW
  obtain ⟨n, c0, c1, c2, c3, rfl, ⟨y0, f0, k0⟩, ⟨y1, f1, k1⟩, ⟨y2, f2, k2⟩, ⟨y3, f3, k3⟩⟩ := rdF61 h hW
  obtain ⟨a0, g0⟩ := (Rd.w (rd_int Tryz.underlying3)) _ _ _ _ _ _ _ _ _ f0 k0
  obtain ⟨a1, g1⟩ := (Rd.w (rd_int Tryz.underlying3)) _ _ _ _ _ _ _ _ _ f1 k1
  obtain ⟨a2, g2⟩ := (Rd.w (rd_int Tryz.underlying3)) _ _ _ _ _ _ _ _ _ f2 k2
  obtain ⟨a3, g3⟩ := rd_Rows _ _ _ _ _ _ _ _ _ f3 k3
  obtain ⟨e0, i0⟩ := g0; obtain ⟨e1, i1⟩ := g1; obtain ⟨e2, i2⟩ := g2; obtain ⟨v3, e3, i3, r3⟩ := g3; cases e0; cases e1; cases e2; cases e3; exact ⟨⟨a0, a1, a2, a3⟩, _, rfl, i0, i1, i2, i3⟩
theorem rd_Fcts : RdW Tryz.prog 27 (fun w cs (l : List Fct) => ∃ v, cs = [v] ∧ Sl w 4 RFct v l ∧ l.length * 48 ≤ 140737488351232) := rdw_slice rd_Fct (by kernel_rfl) (by decide) Tryz.underlying27 (by kernel_rfl)
theorem rd_Sgt : RdW Tryz.prog 29 RSgt := by
  intro H enc w base spare held fuel cs x h hW
  obtain ⟨n, c0, c1, c2, c3, c4, c5, c6, c7, c8, c9, c10, c11, rfl, ⟨y0, f0, k0⟩, ⟨y1, f1, k1⟩, ⟨y2, f2, k2⟩, ⟨y3, f3, k3⟩, ⟨y4, f4, k4⟩, ⟨y5, f5, k5⟩, ⟨y6, f6, k6⟩, ⟨y7, f7, k7⟩, ⟨y8, f8, k8⟩, ⟨y9, f9, k9⟩, ⟨y10, f10, k10⟩⟩ := rdF29 h hW
  obtain ⟨a0, g0⟩ := rd_Table _ _ _ _ _ _ _ _ _ f0 k0
  obtain ⟨a1, g1⟩ := rd_Gauges _ _ _ _ _ _ _ _ _ f1 k1
  obtain ⟨a2, g2⟩ := (Rd.w (rd_int Tryz.underlying3)) _ _ _ _ _ _ _ _ _ f2 k2
  obtain ⟨a3, g3⟩ := (Rd.w (rd_int Tryz.underlying3)) _ _ _ _ _ _ _ _ _ f3 k3
  obtain ⟨a4, g4⟩ := (Rd.w (rd_int Tryz.underlying3)) _ _ _ _ _ _ _ _ _ f4 k4
  obtain ⟨a5, g5⟩ := rd_Ctrs _ _ _ _ _ _ _ _ _ f5 k5
  obtain ⟨a6, g6⟩ := rd_Fcts _ _ _ _ _ _ _ _ _ f6 k6
  obtain ⟨a7, g7⟩ := (Rd.w (rd_int Tryz.underlying3)) _ _ _ _ _ _ _ _ _ f7 k7
  obtain ⟨a8, g8⟩ := (Rd.w (rd_int Tryz.underlying3)) _ _ _ _ _ _ _ _ _ f8 k8
  obtain ⟨a9, g9⟩ := (Rd.w (rd_int Tryz.underlying3)) _ _ _ _ _ _ _ _ _ f9 k9
  obtain ⟨a10, g10⟩ := (Rd.w (rd_int Tryz.underlying3)) _ _ _ _ _ _ _ _ _ f10 k10
  obtain ⟨q0, e0, t0, t1⟩ := g0; obtain ⟨e2, i2⟩ := g2; obtain ⟨e3, i3⟩ := g3; obtain ⟨e4, i4⟩ := g4; obtain ⟨e7, i7⟩ := g7; obtain ⟨e8, i8⟩ := g8; obtain ⟨e9, i9⟩ := g9; obtain ⟨e10, i10⟩ := g10; obtain ⟨v1, e1, i1, r1⟩ := g1; obtain ⟨v5, e5, i5, r5⟩ := g5; obtain ⟨v6, e6, i6, r6⟩ := g6; cases e0; cases e1; cases e2; cases e3; cases e4; cases e5; cases e6; cases e7; cases e8; cases e9; cases e10; exact ⟨⟨a0, a1, a2, a3, a4, a5, a6, a7, a8, a9, a10⟩, _, _, _, _, rfl, ⟨_, rfl, t0, t1⟩, i1, i2, i3, i4, i5, i6, i7, i8, i9, i10⟩
end Go.Proofs.YtgidbailiababaaGreatDoor

/- part Laid -/
namespace Go.Proofs.YtgidbailiababaaGreatDoor
open Go Bx Go.ChangeShapes Go.WideShapes Go.RowKit
theorem laidEt : Tryz.prog.globalNamed "barrage/surge.level" = some 0 := by kernel_rfl
theorem laidTy : (Tryz.prog.globals[0]?).map (·.type) = some 74 := by kernel_rfl
theorem glb_of_laid {W : World} (h : laidMetH Tryz.prog [("barrage/surge.level", Rows.laid_barrage_surge_level)] W) : Glb W := by
  have h' : laidMet Tryz.prog [("barrage/surge.level", Rows.laid_barrage_surge_level)] W := h
  obtain ⟨ps, hv, -, -⟩ := h'
  obtain ⟨g, t, cs, fuel, p, q, hg, ht, hw, htr, -, -⟩ := hv
  obtain rfl : 0 = g := Option.some.inj (laidEt.symm.trans hg)
  obtain rfl : 74 = t := Option.some.inj (laidTy.symm.trans ht)
  obtain ⟨y0, y1, n, hx, hlen, h0, h1⟩ := trod_struct2 Tryz.underlying74 htr
  obtain ⟨a, e0, rfl, -⟩ := DataW.trod_int Tryz.underlying3 h0
  obtain ⟨b, e1, rfl, -⟩ := DataW.trod_int Tryz.underlying3 h1
  have hl2 : cs.toList.length = 2 := hlen.trans (by kernel_rfl)
  have hc : Tryz.prog.cellsOf 3 = 1 := by kernel_rfl
  obtain ⟨u0, u1, hcs⟩ : ∃ u0 u1, cs.toList = [u0, u1] := by
    match hm : cs.toList, hl2 with
    | [u0, u1], _ => exact ⟨u0, u1, rfl⟩
  rw [hcs] at e0 e1
  simp only [hc] at e0 e1
  have d0 : u0 = .int .i64 a := by simpa using e0
  have d1 : u1 = .int .i64 b := by simpa using e1
  have hd : (a = -20000) ∧ b = 20000 := by
    have := (Prod.mk.inj hx).1
    unfold Rows.laid_barrage_surge_level at this
    injection this with this
    simp only [List.cons.injEq, DataW.lit.injEq, Lit.int.injEq, and_true, true_and] at this
    exact ⟨this.1.symm, this.2.symm⟩
  obtain ⟨rfl, rfl⟩ := hd
  subst d0; subst d1
  intro j u hj
  have := World.var?_cell laidEt hw j
  rw [Nat.zero_add, this, ← Array.getElem?_toList, hcs]
  exact hj
noncomputable def laidWorld (os : Os) : World :=
  let w0 := World.holding Tryz.prog os ⟨#[], #[], []⟩
  { w0 with heap := w0.heap.modify 0 fun
      | .cells _ t frozen => .cells #[.int .i64 (-20000), .int .i64 20000] t frozen
      | o => o }
theorem laidWorld_met (os : Os) (args : Array Value) : laidMetH Tryz.prog [("barrage/surge.level", Rows.laid_barrage_surge_level)] ((laidWorld os).forCall (fun _ _ => 0) ⟨#[], args, []⟩).memory :=
  laidMetH_of_parts (laidMet_of_run (ps := [.cell 0 0, .cell 0 1]) 8 (by kernel_rfl) (by kernel_rfl) (by kernel_rfl)) (by kernel_rfl)
end Go.Proofs.YtgidbailiababaaGreatDoor

/- part Sy15 -/
namespace Go.Proofs.YtgidbailiababaaGreatDoor
open Go Bx Go.Proofs.Tryz
def RChC (t : Sgt) (now : Int) (n : Nat) : Prop := ∀ {cv : Value} {ag ak ae : Option Addr} {cg ck ce : Nat} {cu v : Value} {c : List Int} {many : Int} {Rd : World → Prop} {w0 : World}, RSgt w0 (scQ t cv ag ak ae cg ck ce) t → SgOk t → Sl w0 1 RInt cu (curS t now) → Sl w0 1 RInt v c → (∀ w2, Rd w2 → Sl w2 1 RInt v c) → c.length + n = t.ctrs.length → 0 ≤ many → many ≤ 4 → CE Tryz.prog 122 #[.agg (scQ t cv ag ak ae cg ck ce).toArray, cu, v, .int .i64 many] w0 (fun u w' => ∃ vs its, vs.length = (rchS t (curS t now) n (c) (many)).length ∧ (∀ w2 : World, Rd w2 → (∀ it ∈ its, it.ok w2) → Bx.Rows w2 1 RRow (vs.map fun v => [v]) (rchS t (curS t now) n (c) (many))) ∧ St w0 w' [rowI u 39 1 (rchS t (curS t now) n (c) (many)).length vs, packI its])
set_option maxHeartbeats 4000000 in
theorem c_rchstep {n : Nat} {t : Sgt} {now : Int} (IH : ∀ m, n = m + 1 → RChC t now m) {cv : Value} {ag ak ae : Option Addr} {cg ck ce : Nat} {cu v : Value} {c : List Int} {many : Int} {Rd : World → Prop} {w0 : World} (h : RSgt w0 (scQ t cv ag ak ae cg ck ce) t) (hok : SgOk t) (hc : Sl w0 1 RInt cu (curS t now)) (hv : Sl w0 1 RInt v c) (hRd : ∀ w2, Rd w2 → Sl w2 1 RInt v c) (hcn : c.length + n = t.ctrs.length) (hm0 : 0 ≤ many) (hm4 : many ≤ 4) : CE Tryz.prog 122 #[.agg (scQ t cv ag ak ae cg ck ce).toArray, cu, v, .int .i64 many] w0 (fun u w' => ∃ vs its, vs.length = (rchS t (curS t now) n (c) (many)).length ∧ (∀ w2 : World, Rd w2 → (∀ it ∈ its, it.ok w2) → Bx.Rows w2 1 RRow (vs.map fun v => [v]) (rchS t (curS t now) n (c) (many))) ∧ St w0 w' [rowI u 39 1 (rchS t (curS t now) n (c) (many)).length vs, packI its]) := by
 obtain ⟨av, cvv, rfl, hvc, hvm, -⟩ := id hv
 obtain ⟨acu, ccu, rfl, -⟩ := id hc
 rw [curS_len] at hc ⊢
 have hnc := hok.nc
 have hci := ints_i64 hv
 obtain ⟨hT, hG, hw64, hf64, hk64, hC, hF, hl64, hm64, hr64, hq64⟩ := RSgt.parts h
 refine enter func122 rfl ntmps122 rfl ?_
 have hS := St.start w0
 refine seq <| region ?_
 refine sbox hS rfl rfl ?_; clear hS; intro b4 w hS
 refine sv (yAsg rfl) <| nil <| cwQ <| seq <| seq <| region <| sv (yMove rfl) <| sv (yLen rfl underlying39) <| sv (yMove rfl) ?_
 refine sv (yLen rfl underlying39) <| sv (yEql rfl rfl) <| nil <| cwQ ?_
 refine cond rfl (fun c16 => ?_) (fun c16 => ?_)
 ·
  simp only [BS, ne_eq] at c16
  obtain rfl : n = 0 := by omega
  refine seq <| seq <| region <| sv (yMove rfl) <| sv (yEql rfl rfl) <| nil <| cwQ ?_
  refine cond rfl (fun c18 => ?_) (fun c18 => ?_)
  ·
   simp only [BS, ne_eq] at c18
   refine seq <| region <| sv (yMove rfl) ?_
   refine sbslice hS underlying59 sizeOf39 rfl zeroValue39 rfl (.cons rfl rfl .nil) rfl ?_; clear hS; intro b20 w hS
   refine sv (yAsg rfl) <| nil <| cwQ ?_
   refine wp_ret (thenR (thenR ?_))
   refine retQ (res1 rfl rfl) ?_
   have hz : rchS t (curS t now) 0 c many = [c] := by rw [rchS, if_pos (by omega)]
   rw [hz]
   exact ⟨[.slice av c.length cvv], [], rfl, fun w2 h1 _ => ⟨rfl, ⟨_, rfl, hRd w2 h1⟩, trivial⟩, (StX.pack (M := []) ((hS.toRow 1 1 rfl (by decide)).sub (.cons_cons _ (List.nil_sublist _)))).perm (.swap _ _ _)⟩
  ·
   simp only [BS, ne_eq] at c18
   refine skip <| cwQ <| seq <| region <| sv (yAsg rfl) <| nil <| cwQ ?_
   refine wp_ret (thenR ?_)
   refine retQ (res1 rfl rfl) ?_
   have hz : rchS t (curS t now) 0 c many = [] := by rw [rchS, if_neg (by omega)]
   rw [hz]
   exact ⟨[], [], rfl, fun w2 h1 _ => trivial, (its0 hS).nilrow 39 1⟩
 ·
  simp only [BS, ne_eq] at c16
  obtain ⟨m, rfl⟩ : ∃ m, n = m + 1 := ⟨n - 1, by omega⟩
  have hcl : c.length < t.ctrs.length := by omega
  replace IH : RChC t now m := @IH m rfl
  have hbd := rch_bd (now := now) hok
  refine skip <| cwQ ?_
  refine seqJ (n := 67) (fun f w => ∃ (v9 : Value) (vs : List Value) (its : List Bx.Item), f 1 = .slice acu t.ctrs.length ccu ∧ f 2 = .slice av c.length cvv ∧ f 3 = .int .i64 many ∧ f 4 = ptQ b4 ∧ f 9 = v9 ∧ StX [] w0 w [rowI v9 39 1 (rchS t (curS t now) m (c ++ [-1]) (many)).length vs, packI its, blk b4 (scQ t cv ag ak ae cg ck ce) 29] ∧ (vs.length = (rchS t (curS t now) m (c ++ [-1]) (many)).length) ∧ (∀ w2 : World, Rd w2 → (∀ it ∈ its, it.ok w2) → Bx.Rows w2 1 RRow (vs.map fun v => [v]) (rchS t (curS t now) m (c ++ [-1]) (many))) ∧ True) ?_ ?_
  ·
   refine region_m (fun w => w.heap[b4]? = some (.cells ((scQ t cv ag ak ae cg ck ce) : List Value).toArray 29 (0, 0))) (fun _ => True) [] [] mixed (fun c a a' w h => by obtain ⟨_, v, hv, _⟩ := h; cases hv) hS ?_; clear hS; intro w hS
   refine mq 1 0 [] (by kernel_rfl) rfl (hS.at b4) (fun w hS => (yLdBA rfl isAgg29 sizeOf29 hS rfl rfl)) <| mq 0 1 [] (by kernel_rfl) rfl trivial (fun w hS => (yMove rfl)) <| mq 0 3 [] (by kernel_rfl) rfl trivial (fun w hS => (yMove rfl)) <| mq 0 7 [] (by kernel_rfl) rfl trivial (fun w hS => (yMove rfl)) ?_
   refine ms (i := 2) (is := [5]) (by kernel_rfl) ⟨⟨_, rfl, ?_⟩, ⟨_, rfl, ?_⟩, trivial⟩
   ·
    refine sbslice0 hS underlying39 sizeOf3 ?_; clear hS; intro b23 w hS
    refine nil ⟨⟨fun _ _ => (hS.at b4), fun _ _ => trivial⟩, mw ?_⟩
    refine ms (i := 4) (is := [5]) (by kernel_rfl) ⟨⟨_, rfl, ?_⟩, ⟨_, rfl, ?_⟩, trivial⟩
    ·
     refine sappS (bytes := 8) (size := 1) (news := c.flatMap Bx.encI) hS rfl rfl underlying39 ti3 rfl rfl rfl rfl (by decide) sizeOf3 (fun hh => by obtain ⟨bd, od, e1, e2⟩ := encs_news (enc := Bx.encI) (fun _ _ _ h => h.1) hv hh; exact ⟨bd, od, e1, e2.ext hS.ext⟩) (by rw [flat_len Bx.encI_len]) (ch_one c) (by omega) (by omega) ?_; clear hS; intro v25 w hS; rw [Nat.zero_add c.length, List.nil_append] at hS
     refine nil ⟨⟨fun _ _ => (hS.at b4), fun _ _ => trivial⟩, mw ?_⟩
     refine m1 5 (by kernel_rfl) rfl ?_
     refine sbslice hS underlying39 sizeOf3 rfl zeroValue3 rfl (.cons rfl rfl .nil) rfl ?_; clear hS; intro b26 w hS
     refine nil ⟨⟨fun _ _ => (hS.at b4), fun _ _ => trivial⟩, mw ?_⟩
     refine m1 6 (by kernel_rfl) rfl ?_
     refine sapp (bytes := 8) (size := 1) (v := v25) (m := 1) hS rfl rfl underlying39 ti3 rfl rfl rfl rfl (by decide) (blk_cells (hS.at _)) rfl rfl (by omega) (by omega) ?_; clear hS; intro v27 w hS
     refine nil ⟨⟨fun _ _ => (hS.at b4), fun _ _ => trivial⟩, mw ?_⟩
     refine m1 8 (by kernel_rfl) rfl ?_
     refine scall call122 (.cons rfl (.cons rfl (.cons rfl (.cons rfl .nil)))) (IH (v := v27) (c := c ++ [-1]) (Rd := fun w2 => (rowI (v27) 3 1 (c.length + 1) (c.flatMap Bx.encI ++ [Value.int .i64 (-1)])).ok w2) (h.ext hS.ext) hok (hc.ext RInt.stays hS.ext) (ch_sl (hS.row v27) hci (by decide)) (fun w2 h2 => ch_sl h2 hci (by decide)) (by simp; omega) hm0 hm4) ?_
     rintro uv w ⟨vs, its, hvl, hr, hM⟩; replace hS := hS.call hM; clear hM; simp only [List.cons_append, List.nil_append] at hS
     refine nil ⟨⟨fun _ _ => (hS.at b4), fun _ _ => trivial⟩, mw ?_⟩
     refine mq 0 9 [] (by kernel_rfl) rfl trivial (fun w hS => (yAsg rfl)) <| me (by kernel_rfl) ?_
     exact ⟨_, rfl, uv, vs, its ++ [rowI (v27) 3 1 (c.length + 1) (c.flatMap Bx.encI ++ [Value.int .i64 (-1)])], rfl, rfl, rfl, rfl, rfl, (ch_pack (sbQ hS)), (hvl), (fun w2 h1 hi => hr w2 (hi _ (by simp)) (fun it h => hi it (by simp [h]))), trivial⟩
    ·
     refine sbslice hS underlying39 sizeOf3 rfl zeroValue3 rfl (.cons rfl rfl .nil) rfl ?_; clear hS; intro b26 w hS
     refine nil ⟨⟨fun _ _ => (hS.at b4), fun _ _ => trivial⟩, mw ?_⟩
     refine m1 4 (by kernel_rfl) rfl ?_
     refine sappS (bytes := 8) (size := 1) (news := c.flatMap Bx.encI) hS rfl rfl underlying39 ti3 rfl rfl rfl rfl (by decide) sizeOf3 (fun hh => by obtain ⟨bd, od, e1, e2⟩ := encs_news (enc := Bx.encI) (fun _ _ _ h => h.1) hv hh; exact ⟨bd, od, e1, e2.ext hS.ext⟩) (by rw [flat_len Bx.encI_len]) (ch_one c) (by omega) (by omega) ?_; clear hS; intro v25 w hS; rw [Nat.zero_add c.length, List.nil_append] at hS
     refine nil ⟨⟨fun _ _ => (hS.at b4), fun _ _ => trivial⟩, mw ?_⟩
     refine m1 6 (by kernel_rfl) rfl ?_
     refine sapp (bytes := 8) (size := 1) (v := v25) (m := 1) hS rfl rfl underlying39 ti3 rfl rfl rfl rfl (by decide) (blk_cells (hS.at _)) rfl rfl (by omega) (by omega) ?_; clear hS; intro v27 w hS
     refine nil ⟨⟨fun _ _ => (hS.at b4), fun _ _ => trivial⟩, mw ?_⟩
     refine m1 8 (by kernel_rfl) rfl ?_
     refine scall call122 (.cons rfl (.cons rfl (.cons rfl (.cons rfl .nil)))) (IH (v := v27) (c := c ++ [-1]) (Rd := fun w2 => (rowI (v27) 3 1 (c.length + 1) (c.flatMap Bx.encI ++ [Value.int .i64 (-1)])).ok w2) (h.ext hS.ext) hok (hc.ext RInt.stays hS.ext) (ch_sl (hS.row v27) hci (by decide)) (fun w2 h2 => ch_sl h2 hci (by decide)) (by simp; omega) hm0 hm4) ?_
     rintro uv w ⟨vs, its, hvl, hr, hM⟩; replace hS := hS.call hM; clear hM; simp only [List.cons_append, List.nil_append] at hS
     refine nil ⟨⟨fun _ _ => (hS.at b4), fun _ _ => trivial⟩, mw ?_⟩
     refine mq 0 9 [] (by kernel_rfl) rfl trivial (fun w hS => (yAsg rfl)) <| me (by kernel_rfl) ?_
     exact ⟨_, rfl, uv, vs, its ++ [rowI (v27) 3 1 (c.length + 1) (c.flatMap Bx.encI ++ [Value.int .i64 (-1)])], rfl, rfl, rfl, rfl, rfl, (ch_pack (sbQ hS)), (hvl), (fun w2 h1 hi => hr w2 (hi _ (by simp)) (fun it h => hi it (by simp [h]))), trivial⟩
   ·
    refine sbslice hS underlying39 sizeOf3 rfl zeroValue3 rfl (.cons rfl rfl .nil) rfl ?_; clear hS; intro b26 w hS
    refine nil ⟨⟨fun _ _ => (hS.at b4), fun _ _ => trivial⟩, mw ?_⟩
    refine m1 2 (by kernel_rfl) rfl ?_
    refine sbslice0 hS underlying39 sizeOf3 ?_; clear hS; intro b23 w hS
    refine nil ⟨⟨fun _ _ => (hS.at b4), fun _ _ => trivial⟩, mw ?_⟩
    refine m1 4 (by kernel_rfl) rfl ?_
    refine sappS (bytes := 8) (size := 1) (news := c.flatMap Bx.encI) hS rfl rfl underlying39 ti3 rfl rfl rfl rfl (by decide) sizeOf3 (fun hh => by obtain ⟨bd, od, e1, e2⟩ := encs_news (enc := Bx.encI) (fun _ _ _ h => h.1) hv hh; exact ⟨bd, od, e1, e2.ext hS.ext⟩) (by rw [flat_len Bx.encI_len]) (ch_one c) (by omega) (by omega) ?_; clear hS; intro v25 w hS; rw [Nat.zero_add c.length, List.nil_append] at hS
    refine nil ⟨⟨fun _ _ => (hS.at b4), fun _ _ => trivial⟩, mw ?_⟩
    refine m1 6 (by kernel_rfl) rfl ?_
    refine sapp (bytes := 8) (size := 1) (v := v25) (m := 1) hS rfl rfl underlying39 ti3 rfl rfl rfl rfl (by decide) (blk_cells (hS.at _)) rfl rfl (by omega) (by omega) ?_; clear hS; intro v27 w hS
    refine nil ⟨⟨fun _ _ => (hS.at b4), fun _ _ => trivial⟩, mw ?_⟩
    refine m1 8 (by kernel_rfl) rfl ?_
    refine scall call122 (.cons rfl (.cons rfl (.cons rfl (.cons rfl .nil)))) (IH (v := v27) (c := c ++ [-1]) (Rd := fun w2 => (rowI (v27) 3 1 (c.length + 1) (c.flatMap Bx.encI ++ [Value.int .i64 (-1)])).ok w2) (h.ext hS.ext) hok (hc.ext RInt.stays hS.ext) (ch_sl (hS.row v27) hci (by decide)) (fun w2 h2 => ch_sl h2 hci (by decide)) (by simp; omega) hm0 hm4) ?_
    rintro uv w ⟨vs, its, hvl, hr, hM⟩; replace hS := hS.call hM; clear hM; simp only [List.cons_append, List.nil_append] at hS
    refine nil ⟨⟨fun _ _ => (hS.at b4), fun _ _ => trivial⟩, mw ?_⟩
    refine mq 0 9 [] (by kernel_rfl) rfl trivial (fun w hS => (yAsg rfl)) <| me (by kernel_rfl) ?_
    exact ⟨_, rfl, uv, vs, its ++ [rowI (v27) 3 1 (c.length + 1) (c.flatMap Bx.encI ++ [Value.int .i64 (-1)])], rfl, rfl, rfl, rfl, rfl, (ch_pack (sbQ hS)), (hvl), (fun w2 h1 hi => hr w2 (hi _ (by simp)) (fun it h => hi it (by simp [h]))), trivial⟩
  ·
   clear hS; rintro f w ⟨v9, vs, its, h1, h2, h3, h4, h9, hS, hvl, hr, -⟩
   refine seq <| region ?_
   obtain ⟨bq, oq, cq, haq, -, hcq, hRq, -⟩ := sl_at hc (curS_get t now hcl)
   obtain ⟨rfl, -⟩ := hRq
   refine sv (yMove h1) <| sv (yMove h2) <| sv (yLen rfl underlying39) <| sv (yIxQ rfl haq rfl runUnderlying39 sizeOf3) <| sv (yLd rfl isAgg3 (hcq.ext hS.ext).one) <| sv (yAsg rfl) <| nil <| cwQ <| seq ?_
   refine seq <| region <| sv (yMove rfl) <| sv (yLss rfl rfl) <| sv (yMove rfl) ?_
   refine sg rfl rfl rfl (fun g => (yMove h3)) (fun v38 g38 => ?_)
   refine sg rfl rfl rfl (fun g => (yEql (g38.1 g) rfl)) (fun v39 g39 => ?_)
   refine sv (yOr rfl rfl (fun hB => (g39.1 hB))) <| nil <| cwQ ?_
   refine cond rfl (fun c40 => ?_) (fun c40 => ?_)
   ·
    simp only [BS, ne_eq] at c40
    have hskip : (curS t now).getD c.length (-1) < 0 ∨ many = 0 := by rw [cur_at hcl]; exact c40
    refine seq <| region <| sv (yMove h9) <| sv (yAsg rfl) <| nil <| cwQ ?_
    refine wp_ret (thenR ?_)
    refine retQ (res1 rfl rfl) ?_
    rw [rch_skip hskip]
    exact ⟨vs, its, hvl, hr, hS.sub (.cons_cons _ (.cons_cons _ (List.nil_sublist _)))⟩
   ·
    simp only [BS, ne_eq] at c40
    have hmore : ¬ ((curS t now).getD c.length (-1) < 0 ∨ many = 0) := by rw [cur_at hcl]; omega
    obtain ⟨hcf, hfo⟩ := cur_fct (now := now) (i := c.length) hok (by omega)
    obtain ⟨bf, of, csf, haf, -, hcf2, hRf, -⟩ := sl_at hF (fct_get hcf)
    obtain ⟨mv, rfl, hf1, hf2, hf3, hMm⟩ := id hRf
    obtain ⟨am, cm, rfl, hmcap, hmmx, -⟩ := id hMm
    have hnm := hfo.nm
    refine skip <| cwQ <| seq <| seq <| region <| sv (yAsg rfl) <| nil <| cwQ <| block ?_
    refine loop (fun f w zz => ∃ (k : Nat) (v9 : Value) (vs : List Value) (its : List Bx.Item), f 1 = .slice acu t.ctrs.length ccu ∧ f 2 = .slice av c.length cvv ∧ f 3 = .int .i64 many ∧ f 4 = ptQ b4 ∧ f 9 = v9 ∧ f 10 = .int .i64 (curOf t now c.length) ∧ f 11 = .int .i64 (k : Int) ∧ StX [] w0 w [rowI v9 39 1 (rchS t (curS t now) m (c ++ [-1]) many ++ rchM t (curS t now) m c many k).length vs, packI its, blk b4 (scQ t cv ag ak ae cg ck ce) 29] ∧ (k ≤ (fct t.fcs (curOf t now c.length).toNat).members.length) ∧ (vs.length = (rchS t (curS t now) m (c ++ [-1]) many ++ rchM t (curS t now) m c many k).length) ∧ (∀ w2 : World, Rd w2 → (∀ it ∈ its, it.ok w2) → Bx.Rows w2 1 RRow (vs.map fun v => [v]) (rchS t (curS t now) m (c ++ [-1]) many ++ rchM t (curS t now) m c many k)) ∧ zz = (fct t.fcs (curOf t now c.length).toNat).members.length - k) _ ⟨_, rfl, 0, _, _, _, h1, h2, h3, h4, h9, rfl, rfl, (by rw [rchM_0, List.append_nil]; exact hS), (Nat.zero_le _), (by rw [rchM_0, List.append_nil]; exact hvl), (by rw [rchM_0, List.append_nil]; exact hr), rfl⟩ ?_
    clear hS
    rintro f w _ ⟨k, v9, vs, its, h1, h2, h3, h4, h9, h10, h11, hS, hk, hvl, hr, rfl⟩
    refine seq <| seq <| region <| sv (yMove h11) <| sv (fa29_6 h4) <| sv (yLdB rfl isAgg27 (hS.at _) rfl) <| sv (yMove h10) <| sv (yIxQ rfl haf (rfl.trans (congrArg (Value.int .i64) (show curOf t now c.length = (((curOf t now c.length).toNat : Nat) : Int) by omega))) runUnderlying27 sizeOf61) <| sv (fa61_3 rfl) ?_
    refine sv (yLd rfl isAgg59 ((hcf2.ext hS.ext).at (j := 3) rfl)) <| sv (yLen rfl underlying59) <| sv (yLss rfl rfl) <| nil <| cwQ ?_
    refine cond rfl (fun c50 => ?_) (fun c50 => ?_)
    ·
     simp only [BS, ne_eq] at c50
     have hkl : k < (fct t.fcs (curOf t now c.length).toNat).members.length := by omega
     have hb1 := (hbd m (c ++ [-1]) many (by omega) (by simp; omega)).1
     have hb2 := (hbd (m + 1) c many (by omega) (by omega)).2 k (by omega) (by omega)
     rw [Nat.add_sub_cancel] at hb2
     have hb3 := (hbd m (c ++ [(k : Int)]) (many - 1) (by omega) (by simp; omega)).1
     have hp5 : 5 ^ m ≤ 5 ^ 4 := Nat.pow_le_pow_right (by decide) (by omega)
     have hp6 : k * 5 ^ m ≤ 4 * 5 ^ 4 := Nat.mul_le_mul (by omega) hp5
     have hla : (rchS t (curS t now) m (c ++ [-1]) many ++ rchM t (curS t now) m c many k).length = (rchS t (curS t now) m (c ++ [-1]) (many)).length + (rchM t (curS t now) m c many k).length := List.length_append
     refine skip <| cwQ ?_
     refine seqJ (n := 67) (fun f w => ∃ (v9 : Value) (vs : List Value) (its : List Bx.Item), f 1 = .slice acu t.ctrs.length ccu ∧ f 2 = .slice av c.length cvv ∧ f 3 = .int .i64 many ∧ f 4 = ptQ b4 ∧ f 9 = v9 ∧ f 10 = .int .i64 (curOf t now c.length) ∧ f 11 = .int .i64 (k : Int) ∧ StX [] w0 w [rowI v9 39 1 (rchS t (curS t now) m (c ++ [-1]) many ++ rchM t (curS t now) m c many (k + 1)).length vs, packI its, blk b4 (scQ t cv ag ak ae cg ck ce) 29] ∧ (vs.length = (rchS t (curS t now) m (c ++ [-1]) many ++ rchM t (curS t now) m c many (k + 1)).length) ∧ (∀ w2 : World, Rd w2 → (∀ it ∈ its, it.ok w2) → Bx.Rows w2 1 RRow (vs.map fun v => [v]) (rchS t (curS t now) m (c ++ [-1]) many ++ rchM t (curS t now) m c many (k + 1))) ∧ True) ?_ ?_
     ·
      refine block ?_
      refine region_m (fun w => w.heap[b4]? = some (.cells ((scQ t cv ag ak ae cg ck ce) : List Value).toArray 29 (0, 0))) (fun _ => True) [] [] mixed (fun c a a' w h => by obtain ⟨_, v, hv, _⟩ := h; cases hv) hS ?_; clear hS; intro w hS
      refine mq 0 0 [] (by kernel_rfl) rfl trivial (fun w hS => (yMove h9)) <| mq 1 1 [] (by kernel_rfl) rfl (hS.at b4) (fun w hS => (yLdBA h4 isAgg29 sizeOf29 hS rfl rfl)) <| mq 0 2 [] (by kernel_rfl) rfl trivial (fun w hS => (yMove h1)) <| mq 0 4 [] (by kernel_rfl) rfl trivial (fun w hS => (yMove h2)) <| mq 0 6 [] (by kernel_rfl) rfl trivial (fun w hS => (yMove h11)) <| mq 0 9 [] (by kernel_rfl) rfl trivial (fun w hS => (yMove h3)) <| mq 0 10 [] (by kernel_rfl) rfl trivial (fun w hS => (ySub rfl rfl ⟨by omega, by omega⟩)) ?_
      refine ms (i := 3) (is := [7]) (by kernel_rfl) ⟨⟨_, rfl, ?_⟩, ⟨_, rfl, ?_⟩, trivial⟩
      ·
       refine sbslice0 hS underlying39 sizeOf3 ?_; clear hS; intro b56 w hS
       refine nil ⟨⟨fun _ _ => (hS.at b4), fun _ _ => trivial⟩, mw ?_⟩
       refine ms (i := 5) (is := [7]) (by kernel_rfl) ⟨⟨_, rfl, ?_⟩, ⟨_, rfl, ?_⟩, trivial⟩
       ·
        refine sappS (bytes := 8) (size := 1) (news := c.flatMap Bx.encI) hS rfl rfl underlying39 ti3 rfl rfl rfl rfl (by decide) sizeOf3 (fun hh => by obtain ⟨bd, od, e1, e2⟩ := encs_news (enc := Bx.encI) (fun _ _ _ h => h.1) hv hh; exact ⟨bd, od, e1, e2.ext hS.ext⟩) (by rw [flat_len Bx.encI_len]) (ch_one c) (by omega) (by omega) ?_; clear hS; intro v58 w hS; rw [Nat.zero_add c.length, List.nil_append] at hS
        refine nil ⟨⟨fun _ _ => (hS.at b4), fun _ _ => trivial⟩, mw ?_⟩
        refine m1 7 (by kernel_rfl) rfl ?_
        refine sbslice hS underlying39 sizeOf3 rfl zeroValue3 rfl (.cons rfl rfl .nil) rfl ?_; clear hS; intro b60 w hS
        refine nil ⟨⟨fun _ _ => (hS.at b4), fun _ _ => trivial⟩, mw ?_⟩
        refine m1 8 (by kernel_rfl) rfl ?_
        refine sapp (bytes := 8) (size := 1) (v := v58) (m := 1) hS rfl rfl underlying39 ti3 rfl rfl rfl rfl (by decide) (blk_cells (hS.at _)) rfl rfl (by omega) (by omega) ?_; clear hS; intro v61 w hS
        refine nil ⟨⟨fun _ _ => (hS.at b4), fun _ _ => trivial⟩, mw ?_⟩
        refine m1 11 (by kernel_rfl) rfl ?_
        refine scall call122 (.cons rfl (.cons rfl (.cons rfl (.cons rfl .nil)))) (IH (v := v61) (c := c ++ [(k : Int)]) (Rd := fun w2 => (rowI (v61) 3 1 (c.length + 1) (c.flatMap Bx.encI ++ [Value.int .i64 ((k : Int))])).ok w2) (h.ext hS.ext) hok (hc.ext RInt.stays hS.ext) (ch_sl (hS.row v61) hci ⟨by omega, by omega⟩) (fun w2 h2 => ch_sl h2 hci ⟨by omega, by omega⟩) (by simp; omega) (by omega) (by omega)) ?_
        rintro uv w ⟨vs2, its2, hvl2, hr2, hM⟩; replace hS := hS.call hM; clear hM; simp only [List.cons_append, List.nil_append] at hS
        obtain ⟨a9, c9, rfl⟩ := row_shape (hS.row v9)
        obtain ⟨au, cu9, rfl⟩ := row_shape (hS.row uv)
        have hone := rows_one (hr2 w (hS.row v61) (fun it hi => hS.ok (packI its2) (List.mem_cons_of_mem _ (List.mem_cons_self ..)) it hi))
        refine nil ⟨⟨fun _ _ => (hS.at b4), fun _ _ => trivial⟩, mw ?_⟩
        refine m1 12 (by kernel_rfl) rfl ?_
        refine sappS (bytes := 24) (size := 1) (news := vs2) hS rfl rfl underlying59 ti39 rfl rfl rfl rfl (by decide) sizeOf39 (fun hh => by obtain ⟨g2, hg2, hc2⟩ := row_get (hS.row (.slice au _ cu9)) hh; exact ⟨g2, 0, hg2, hc2⟩) (by rw [hvl2, Nat.mul_one]) hone (by omega) (by omega) ?_; clear hS; intro v65 w hS
        refine nil ⟨⟨fun _ _ => (hS.at b4), fun _ _ => trivial⟩, mw ?_⟩
        refine mq 0 13 [] (by kernel_rfl) rfl trivial (fun w hS => (yAsg rfl)) <| me (by kernel_rfl) ?_
        exact ⟨_, rfl, v65, vs ++ vs2, its ++ (its2 ++ [rowI (v61) 3 1 (c.length + 1) (c.flatMap Bx.encI ++ [Value.int .i64 ((k : Int))])]), h1, h2, h3, h4, rfl, h10, h11, (by rw [rchM_succ, ← List.append_assoc, List.length_append]; exact ch_pack3 (sbQ hS)), (by simp only [List.length_append, rchM_succ, hvl, hvl2]; omega), (fun w2 h1 hi => by rw [List.map_append, rchM_succ, ← List.append_assoc]; exact ch_cat (hr w2 h1 (fun it h => hi it (by simp [h]))) (hr2 w2 (hi _ (by simp)) (fun it h => hi it (by simp [h])))), trivial⟩
       ·
        refine sbslice hS underlying39 sizeOf3 rfl zeroValue3 rfl (.cons rfl rfl .nil) rfl ?_; clear hS; intro b60 w hS
        refine nil ⟨⟨fun _ _ => (hS.at b4), fun _ _ => trivial⟩, mw ?_⟩
        refine m1 5 (by kernel_rfl) rfl ?_
        refine sappS (bytes := 8) (size := 1) (news := c.flatMap Bx.encI) hS rfl rfl underlying39 ti3 rfl rfl rfl rfl (by decide) sizeOf3 (fun hh => by obtain ⟨bd, od, e1, e2⟩ := encs_news (enc := Bx.encI) (fun _ _ _ h => h.1) hv hh; exact ⟨bd, od, e1, e2.ext hS.ext⟩) (by rw [flat_len Bx.encI_len]) (ch_one c) (by omega) (by omega) ?_; clear hS; intro v58 w hS; rw [Nat.zero_add c.length, List.nil_append] at hS
        refine nil ⟨⟨fun _ _ => (hS.at b4), fun _ _ => trivial⟩, mw ?_⟩
        refine m1 8 (by kernel_rfl) rfl ?_
        refine sapp (bytes := 8) (size := 1) (v := v58) (m := 1) hS rfl rfl underlying39 ti3 rfl rfl rfl rfl (by decide) (blk_cells (hS.at _)) rfl rfl (by omega) (by omega) ?_; clear hS; intro v61 w hS
        refine nil ⟨⟨fun _ _ => (hS.at b4), fun _ _ => trivial⟩, mw ?_⟩
        refine m1 11 (by kernel_rfl) rfl ?_
        refine scall call122 (.cons rfl (.cons rfl (.cons rfl (.cons rfl .nil)))) (IH (v := v61) (c := c ++ [(k : Int)]) (Rd := fun w2 => (rowI (v61) 3 1 (c.length + 1) (c.flatMap Bx.encI ++ [Value.int .i64 ((k : Int))])).ok w2) (h.ext hS.ext) hok (hc.ext RInt.stays hS.ext) (ch_sl (hS.row v61) hci ⟨by omega, by omega⟩) (fun w2 h2 => ch_sl h2 hci ⟨by omega, by omega⟩) (by simp; omega) (by omega) (by omega)) ?_
        rintro uv w ⟨vs2, its2, hvl2, hr2, hM⟩; replace hS := hS.call hM; clear hM; simp only [List.cons_append, List.nil_append] at hS
        obtain ⟨a9, c9, rfl⟩ := row_shape (hS.row v9)
        obtain ⟨au, cu9, rfl⟩ := row_shape (hS.row uv)
        have hone := rows_one (hr2 w (hS.row v61) (fun it hi => hS.ok (packI its2) (List.mem_cons_of_mem _ (List.mem_cons_self ..)) it hi))
        refine nil ⟨⟨fun _ _ => (hS.at b4), fun _ _ => trivial⟩, mw ?_⟩
        refine m1 12 (by kernel_rfl) rfl ?_
        refine sappS (bytes := 24) (size := 1) (news := vs2) hS rfl rfl underlying59 ti39 rfl rfl rfl rfl (by decide) sizeOf39 (fun hh => by obtain ⟨g2, hg2, hc2⟩ := row_get (hS.row (.slice au _ cu9)) hh; exact ⟨g2, 0, hg2, hc2⟩) (by rw [hvl2, Nat.mul_one]) hone (by omega) (by omega) ?_; clear hS; intro v65 w hS
        refine nil ⟨⟨fun _ _ => (hS.at b4), fun _ _ => trivial⟩, mw ?_⟩
        refine mq 0 13 [] (by kernel_rfl) rfl trivial (fun w hS => (yAsg rfl)) <| me (by kernel_rfl) ?_
        exact ⟨_, rfl, v65, vs ++ vs2, its ++ (its2 ++ [rowI (v61) 3 1 (c.length + 1) (c.flatMap Bx.encI ++ [Value.int .i64 ((k : Int))])]), h1, h2, h3, h4, rfl, h10, h11, (by rw [rchM_succ, ← List.append_assoc, List.length_append]; exact ch_pack3 (sbQ hS)), (by simp only [List.length_append, rchM_succ, hvl, hvl2]; omega), (fun w2 h1 hi => by rw [List.map_append, rchM_succ, ← List.append_assoc]; exact ch_cat (hr w2 h1 (fun it h => hi it (by simp [h]))) (hr2 w2 (hi _ (by simp)) (fun it h => hi it (by simp [h])))), trivial⟩
      ·
       refine sbslice hS underlying39 sizeOf3 rfl zeroValue3 rfl (.cons rfl rfl .nil) rfl ?_; clear hS; intro b60 w hS
       refine nil ⟨⟨fun _ _ => (hS.at b4), fun _ _ => trivial⟩, mw ?_⟩
       refine m1 3 (by kernel_rfl) rfl ?_
       refine sbslice0 hS underlying39 sizeOf3 ?_; clear hS; intro b56 w hS
       refine nil ⟨⟨fun _ _ => (hS.at b4), fun _ _ => trivial⟩, mw ?_⟩
       refine m1 5 (by kernel_rfl) rfl ?_
       refine sappS (bytes := 8) (size := 1) (news := c.flatMap Bx.encI) hS rfl rfl underlying39 ti3 rfl rfl rfl rfl (by decide) sizeOf3 (fun hh => by obtain ⟨bd, od, e1, e2⟩ := encs_news (enc := Bx.encI) (fun _ _ _ h => h.1) hv hh; exact ⟨bd, od, e1, e2.ext hS.ext⟩) (by rw [flat_len Bx.encI_len]) (ch_one c) (by omega) (by omega) ?_; clear hS; intro v58 w hS; rw [Nat.zero_add c.length, List.nil_append] at hS
       refine nil ⟨⟨fun _ _ => (hS.at b4), fun _ _ => trivial⟩, mw ?_⟩
       refine m1 8 (by kernel_rfl) rfl ?_
       refine sapp (bytes := 8) (size := 1) (v := v58) (m := 1) hS rfl rfl underlying39 ti3 rfl rfl rfl rfl (by decide) (blk_cells (hS.at _)) rfl rfl (by omega) (by omega) ?_; clear hS; intro v61 w hS
       refine nil ⟨⟨fun _ _ => (hS.at b4), fun _ _ => trivial⟩, mw ?_⟩
       refine m1 11 (by kernel_rfl) rfl ?_
       refine scall call122 (.cons rfl (.cons rfl (.cons rfl (.cons rfl .nil)))) (IH (v := v61) (c := c ++ [(k : Int)]) (Rd := fun w2 => (rowI (v61) 3 1 (c.length + 1) (c.flatMap Bx.encI ++ [Value.int .i64 ((k : Int))])).ok w2) (h.ext hS.ext) hok (hc.ext RInt.stays hS.ext) (ch_sl (hS.row v61) hci ⟨by omega, by omega⟩) (fun w2 h2 => ch_sl h2 hci ⟨by omega, by omega⟩) (by simp; omega) (by omega) (by omega)) ?_
       rintro uv w ⟨vs2, its2, hvl2, hr2, hM⟩; replace hS := hS.call hM; clear hM; simp only [List.cons_append, List.nil_append] at hS
       obtain ⟨a9, c9, rfl⟩ := row_shape (hS.row v9)
       obtain ⟨au, cu9, rfl⟩ := row_shape (hS.row uv)
       have hone := rows_one (hr2 w (hS.row v61) (fun it hi => hS.ok (packI its2) (List.mem_cons_of_mem _ (List.mem_cons_self ..)) it hi))
       refine nil ⟨⟨fun _ _ => (hS.at b4), fun _ _ => trivial⟩, mw ?_⟩
       refine m1 12 (by kernel_rfl) rfl ?_
       refine sappS (bytes := 24) (size := 1) (news := vs2) hS rfl rfl underlying59 ti39 rfl rfl rfl rfl (by decide) sizeOf39 (fun hh => by obtain ⟨g2, hg2, hc2⟩ := row_get (hS.row (.slice au _ cu9)) hh; exact ⟨g2, 0, hg2, hc2⟩) (by rw [hvl2, Nat.mul_one]) hone (by omega) (by omega) ?_; clear hS; intro v65 w hS
       refine nil ⟨⟨fun _ _ => (hS.at b4), fun _ _ => trivial⟩, mw ?_⟩
       refine mq 0 13 [] (by kernel_rfl) rfl trivial (fun w hS => (yAsg rfl)) <| me (by kernel_rfl) ?_
       exact ⟨_, rfl, v65, vs ++ vs2, its ++ (its2 ++ [rowI (v61) 3 1 (c.length + 1) (c.flatMap Bx.encI ++ [Value.int .i64 ((k : Int))])]), h1, h2, h3, h4, rfl, h10, h11, (by rw [rchM_succ, ← List.append_assoc, List.length_append]; exact ch_pack3 (sbQ hS)), (by simp only [List.length_append, rchM_succ, hvl, hvl2]; omega), (fun w2 h1 hi => by rw [List.map_append, rchM_succ, ← List.append_assoc]; exact ch_cat (hr w2 h1 (fun it h => hi it (by simp [h]))) (hr2 w2 (hi _ (by simp)) (fun it h => hi it (by simp [h])))), trivial⟩
     ·
      clear hS; rintro f w ⟨v9, vs, its, h1, h2, h3, h4, h9, h10, h11, hS, hvl, hr, -⟩
      refine region <| sv (yMove h11) <| sv (yAdd rfl rfl ⟨by omega, by omega⟩) <| sv (yAsg rfl) <| nil ?_
      exact ⟨_, _, rfl, ⟨k + 1, _, _, _, h1, h2, h3, h4, h9, h10, rfl, hS, (by omega), (hvl), (hr), rfl⟩, by omega⟩
    ·
     simp only [BS, ne_eq] at c50
     refine exit <| cwQ <| seq <| region <| sv (yMove h9) <| sv (yAsg rfl) <| nil <| cwQ <| wp_ret ?_
     refine retQ (res1 rfl rfl) ?_
     rw [rch_more hmore, cur_at hcl]
     obtain rfl : k = (fct t.fcs (curOf t now c.length).toNat).members.length := by omega
     exact ⟨vs, its, hvl, hr, hS.sub (.cons_cons _ (.cons_cons _ (List.nil_sublist _)))⟩
theorem c_rchoices {t : Sgt} {now : Int} (n : Nat) : RChC t now n := by
 induction n with
 | zero =>
  unfold RChC
  exact fun h hok hc hv hRd hcn hm0 hm4 => c_rchstep (fun m hm => absurd hm (by omega)) h hok hc hv hRd hcn hm0 hm4
 | succ n ih =>
  unfold RChC
  exact fun h hok hc hv hRd hcn hm0 hm4 => c_rchstep (fun m hm => by
   obtain rfl : n = m := by omega
   exact ih) h hok hc hv hRd hcn hm0 hm4
end Go.Proofs.YtgidbailiababaaGreatDoor

/- part S41 -/
namespace Bx
open Go Go.RowKit
abbrev LLV := List (List Value)
section
variable {t : Sgt} {now : Int}
theorem ch_at {w : World} {E : TypeId} {vs : List Value} {a : Option Addr} {n cap : Nat} (hrow : w.ownsRow 0 E 1 (.slice a n cap) n vs) (hl : vs.length = n) {i : Nat} (hi : i < n) : ∃ g mv, a = some ⟨g, 0, none⟩ ∧ vs[i]? = some mv ∧ w.cell? ⟨g, 0 + i * 1, none⟩ = some mv := by
  obtain ⟨g, rfl, hc⟩ := row_get hrow (by omega)
  have hv : vs[i]? = some vs[i] := List.getElem?_eq_getElem (by omega)
  exact ⟨g, _, rfl, hv, by rw [Nat.mul_one]; exact hc i _ hv⟩
theorem meet_get {a b : List Span} {i : Nat} (ha : i < a.length) (hb : i < b.length) : (meetS a b)[i]? = some (cutS (spn a i) (spn b i)) := by
  simp [meetS, List.getElem?_zipWith, spn_get ha, spn_get hb]
theorem box_end {S : List Nat} {w0 w : World} {u : Item} {p q L : List Item} (h : StX S w0 w (u :: packI p :: packI q :: L)) : StX S w0 w [u, packI (p ++ q)] := by
  have h1 : StX S w0 w (p ++ (u :: packI q :: L)) := (h.perm (.swap _ _ _)).unpack
  have h2 : StX S w0 w (packI q :: (u :: (p ++ L))) := h1.perm (by
    refine (List.perm_middle (l₁ := p) (l₂ := packI q :: L) (a := u)).trans ?_
    exact ((List.perm_middle (l₁ := p) (l₂ := L) (a := packI q)).cons u).trans (.swap _ _ _))
  have h3 : StX S w0 w ((p ++ q) ++ (u :: L)) := h2.unpack.perm (by
    refine (List.perm_middle (l₁ := q) (l₂ := p ++ L) (a := u)).trans ?_
    refine List.Perm.trans ?_ (List.perm_middle (l₁ := p ++ q) (l₂ := L) (a := u)).symm
    refine List.Perm.cons u ?_
    rw [← List.append_assoc]
    exact List.perm_append_comm.append_right L)
  exact (h3.pack.perm (.swap _ _ _)).sub (.cons_cons _ (.cons_cons _ (List.nil_sublist _)))
theorem box_next {S : List Nat} {w0 w : World} {a b u : Item} {p L : List Item} (h : StX S w0 w (a :: b :: u :: packI p :: L)) : StX S w0 w [u, packI ([a, b] ++ p)] := by
  have h1 : StX S w0 w (p ++ (a :: b :: u :: L)) := (h.perm (((List.perm_middle (l₁ := [a, b, u]) (l₂ := L) (a := packI p))).trans (List.Perm.refl _))).unpack
  have h2 : StX S w0 w (([a, b] ++ p) ++ (u :: L)) := h1.perm (by
    rw [List.append_assoc]
    exact (List.perm_middle (l₁ := p) (l₂ := b :: u :: L) (a := a)).trans ((List.perm_middle (l₁ := p) (l₂ := u :: L) (a := b)).cons a))
  exact (h2.pack.perm (.swap _ _ _)).sub (.cons_cons _ (.cons_cons _ (List.nil_sublist _)))
theorem box_pre {S : List Nat} {w0 w : World} {b : Item} {L : List Item} (h : StX S w0 w (b :: L)) : StX S w0 w (b :: rowI (.slice none 0 0) 3 1 0 [] :: rowI (.slice none 0 0) 3 1 0 [] :: L) :=
  ((h.nilrow 3 1).nilrow 3 1).perm (((List.Perm.swap _ _ _).cons _).trans (.swap _ _ _))
theorem los_get {l : List Span} {i : Nat} (h : i < l.length) : (losS l)[i]? = some (spn l i).lo := by simp [losS, spn_get h]
theorem his_get {l : List Span} {i : Nat} (h : i < l.length) : (hisS l)[i]? = some (spn l i).hi := by simp [hisS, spn_get h]
theorem los_i64 {l : List Span} (h : LBd 40000000 l) : ∀ x ∈ losS l, I64 x := fun v hv => by
  obtain ⟨s, hs, rfl⟩ := List.mem_map.1 hv
  exact (lbd_i64 h s hs).1
theorem his_i64 {l : List Span} (h : LBd 40000000 l) : ∀ x ∈ hisS l, I64 x := fun v hv => by
  obtain ⟨s, hs, rfl⟩ := List.mem_map.1 hv
  exact (lbd_i64 h s hs).2
theorem box_pk {S : List Nat} {w0 w : World} {u : Item} {p L : List Item} (h : StX S w0 w (u :: packI p :: L)) : StX S w0 w [packI (u :: p)] := by
  have h1 : StX S w0 w (p ++ (u :: L)) := (h.perm (.swap _ _ _)).unpack
  have h2 : StX S w0 w ((u :: p) ++ L) := h1.perm (List.perm_middle (l₁ := p) (l₂ := L) (a := u))
  exact h2.pack.sub (.cons_cons _ (List.nil_sublist _))
def eLo (t : Sgt) (now : Int) (n : Nat) : List Int := (List.range n).map fun i => envLo t now i (boxS t now).length
def eHi (t : Sgt) (now : Int) (n : Nat) : List Int := (List.range n).map fun i => envHi t now i (boxS t now).length
theorem eLo_succ {n : Nat} : eLo t now (n + 1) = eLo t now n ++ [envLo t now n (boxS t now).length] := by unfold eLo; rw [List.range_succ, List.map_append]; rfl
theorem eHi_succ {n : Nat} : eHi t now (n + 1) = eHi t now n ++ [envHi t now n (boxS t now).length] := by unfold eHi; rw [List.range_succ, List.map_append]; rfl
theorem eLo_len {n : Nat} : (eLo t now n).length = n := by simp [eLo]
theorem eHi_len {n : Nat} : (eHi t now n).length = n := by simp [eHi]
theorem eLo_i64 (h : SgOk t) {n : Nat} : ∀ x ∈ eLo t now n, I64 x := fun x hx => by
  obtain ⟨i, -, rfl⟩ := List.mem_map.1 hx
  exact (env_i64 h i _).1
theorem eHi_i64 (h : SgOk t) {n : Nat} : ∀ x ∈ eHi t now n, I64 x := fun x hx => by
  obtain ⟨i, -, rfl⟩ := List.mem_map.1 hx
  exact (env_i64 h i _).2
theorem sm_yes (h1 : (boxR t now).2 = 0) (h2 : (boxS t now).length = 0) : smE t now = 9 := by
  rw [boxR_2] at h1
  unfold smE; rw [if_neg (fun k => k h1), if_pos h2]
theorem sm_no (h : (boxR t now).2 = 0 → ¬ (boxS t now).length = 0) : smE t now = (boxR t now).2 := by
  rw [boxR_2] at h ⊢
  unfold smE
  by_cases h0 : askE t now = 0
  · rw [if_neg (fun k => k h0), if_neg (h h0), h0]
  · rw [if_pos h0]
theorem env_f64 (h : I64 t.frm) : I64 (envR t now).1.frm := by
  unfold envR; split
  · exact (⟨by decide, by decide⟩ : I64 0)
  · exact h
theorem env_f64b (h : I64 t.frm) : I64 (envR t now).2.1.frm := by
  unfold envR; split
  · exact (⟨by decide, by decide⟩ : I64 0)
  · exact h
theorem env_ok (h : smE t now = 0) : envR t now = (⟨t.frm, eLo t now t.ticks.toNat⟩, ⟨t.frm, eHi t now t.ticks.toNat⟩, 0) := by unfold envR; rw [if_neg (fun k => k h)]; rfl
theorem peak_ok (h : smE t now = 0) : peakR t now = (⟨peakLo t now (boxS t now).length, peakHi t now (boxS t now).length⟩, 0) := by unfold peakR; rw [if_neg (fun k => k h)]
theorem bxs_get {w : World} {a : Option Addr} {n c : Nat} {bs : List Bo} {frm : Int} (h : Sl w 5 RBxs (.slice a n c) (bs.map (toBxs frm))) {i : Nat} (hi : i < bs.length) :
    ∃ g o m al cl ah ch, a = some ⟨g, o, none⟩ ∧ Cells w g (o + i * 5) [m, .int .i64 frm, .slice al (lowB (boxAt bs i)).length cl, .int .i64 frm, .slice ah (highB (boxAt bs i)).length ch] ∧ Sl w 1 RInt (.slice al (lowB (boxAt bs i)).length cl) (lowB (boxAt bs i)) ∧ Sl w 1 RInt (.slice ah (highB (boxAt bs i)).length ch) (highB (boxAt bs i)) ∧ Sl w 1 RInt m (boxAt bs i).mem ∧ i < n := by
  obtain ⟨g, o, cs, h1, -, h2, hR, h3⟩ := sl_at h (i := i) (x := toBxs frm (boxAt bs i)) (by rw [List.getElem?_map, boxAt_get hi]; rfl)
  obtain ⟨m, l, hh, rfl, -, -, k1, k2, k3⟩ := hR
  obtain ⟨al, cl, rfl, -⟩ := id k2
  obtain ⟨ah, ch, rfl, -⟩ := id k3
  exact ⟨g, o, m, al, cl, ah, ch, h1, h2, k2, k3, k1, h3⟩
variable {th : Int}
end
end Bx

/- part Sy16 -/
namespace Go.Proofs.YtgidbailiababaaGreatDoor
open Go Bx Go.Proofs.Tryz
set_option maxHeartbeats 8000000 in
theorem c_rboxes {t : Sgt} {now : Int} {cv : Value} {ag ak ae : Option Addr} {cg ck ce : Nat} {w0 : World} (h : RSgt w0 (scQ t cv ag ak ae cg ck ce) t) (hok : SgOk t) (hnow : Bd now 0 200000) : CE Tryz.prog 66 #[.agg (scQ t cv ag ak ae cg ck ce).toArray, .int .i64 now] w0 (fun u w' => ∃ css its, (∀ w2 : World, (∀ it ∈ its, it.ok w2) → Bx.Rows w2 5 RBxs css ((boxS t now).map (toBxs t.frm))) ∧ St w0 w' [rowI u 43 5 (boxS t now).length css.flatten, packI its]) := by
 have hRC : RChC t now t.ctrs.length := c_rchoices t.ctrs.length
 have htk := hok.tk
 have hnc := hok.nc
 have hn4 := hok.nums4
 obtain ⟨hT, hG, hw64, hf64, hk64, hC, hF, hl64, hm64, hr64, hq64⟩ := RSgt.parts h
 refine enter func66 rfl ntmps66 rfl ?_
 have hS := St.start w0
 refine seq <| region ?_
 refine sbox hS rfl rfl ?_; clear hS; intro b2 w hS
 refine sv (yAsg rfl) <| nil <| cwQ <| seq <| region <| sv (yLdBA rfl isAgg29 sizeOf29 (hS.at _) rfl rfl) <| sv (yMove rfl) ?_
 refine scall call85 (.cons rfl (.cons rfl .nil)) (c_rcurrent (h.ext hS.ext) hok hnow) ?_
 rintro uc w hM; replace hS := hS.call1 hM; clear hM
 refine sv (yAsg rfl) <| nil <| cwQ <| seq <| region <| sv (yLdBA rfl isAgg29 sizeOf29 (hS.at _) rfl rfl) <| sv (yMove rfl) ?_
 refine scall call86 (.cons rfl (.cons rfl .nil)) (c_rbase (h.ext hS.ext) hok) ?_
 rintro ub w hM; replace hS := hS.call1 hM; clear hM
 refine sv (yAsg rfl) <| nil <| cwQ <| seq ?_
 refine region_m (fun w => w.heap[b2]? = some (.cells ((scQ t cv ag ak ae cg ck ce) : List Value).toArray 29 (0, 0))) (fun _ => True) [] [] mixed (fun c a a' w h => by obtain ⟨_, v, hv, _⟩ := h; cases hv) hS ?_; clear hS; intro w hS
 refine mq 1 0 [] (by kernel_rfl) rfl (hS.at b2) (fun w hS => (yLdBA rfl isAgg29 sizeOf29 hS rfl rfl)) <| mq 0 1 [] (by kernel_rfl) rfl trivial (fun w hS => (yMove rfl)) <| mq 1 2 [] (by kernel_rfl) rfl (hS.at b2) (fun w hS => (yLdBA rfl isAgg29 sizeOf29 hS rfl rfl)) <| mq 0 3 [] (by kernel_rfl) rfl trivial (fun w hS => (yMove rfl)) <| m1 4 (by kernel_rfl) rfl ?_
 refine scV hS call123 (.cons rfl (.cons rfl .nil)) (c_rneeded (h.ext hS.ext) hok hnow) ?_; clear hS; intro w hS
 refine nil ⟨⟨fun _ _ => (hS.at b2), fun _ _ => trivial⟩, mw ?_⟩
 refine m1 5 (by kernel_rfl) rfl ?_
 refine scall call122 (.cons rfl (.cons rfl (.cons rfl (.cons rfl .nil)))) (hRC (v := .slice none 0 0) (c := []) (Rd := fun _ => True) (h.ext hS.ext) hok (sl_ints (hS.row uc) (curS_len ..) (cur_i64 hok)) sl_none (fun _ _ => sl_none) (Nat.zero_add _) (need_nn2 hok) (need_le hok)) ?_
 rintro uch w ⟨vs, itsC, hvl, hr, hM⟩; replace hS := hS.call hM; clear hM; simp only [List.cons_append, List.nil_append] at hS
 refine nil ⟨⟨fun _ _ => (hS.at b2), fun _ _ => trivial⟩, mw ?_⟩
 refine mq 0 6 [] (by kernel_rfl) rfl trivial (fun w hS => (yAsg rfl)) <| me (by kernel_rfl) <| cwQ <| seq <| region ?_
 rw [rch_fst, List.length_map] at hvl hS
 rw [rch_fst] at hr
 obtain ⟨acu, ccu, rfl⟩ := row_shape (hS.row uc)
 obtain ⟨ab, cb, rfl⟩ := row_shape (hS.row ub)
 obtain ⟨avc, cvc, rfl⟩ := row_shape (hS.row uch)
 have hS0 := hS
 have hcu : Sl w 1 RInt (.slice acu t.ctrs.length ccu) (curS t now) := sl_ints (hS.row (.slice acu t.ctrs.length ccu)) (curS_len ..) (cur_i64 hok)
 have hbs : Sl w 2 RSpan (.slice ab t.ticks.toNat cb) (baseS t now) := sl_spans (hS.row (.slice ab t.ticks.toNat cb)) (baseS_len ..) (lbd_i64 (baseS_lbd hok now))
 have hrow0 := hS.row (.slice avc (choS t now).length cvc)
 have hiC : ∀ it ∈ itsC, it.ok w := hS.ok (packI itsC) (by simp)
 have ht1 := h.ext hS.ext
 have hb2 := hS.at b2
 have hcb := cho_bd (now := now) hok
 obtain ⟨w0, hwq⟩ : ∃ wq, wq = w := ⟨w, rfl⟩
 rw [← hwq] at hS0 hcu hbs hrow0 hiC ht1 hb2
 replace hS : StX [] w0 w [] := by rw [hwq]; exact St.start w
 clear hwq
 refine sv (yAsg rfl) <| nil <| cwQ <| seq <| seq <| region <| sv (yAsg rfl) <| nil <| cwQ ?_
 refine block <| loop (fun f w zz => ∃ (i : Nat) (v8 : Value) (css : LLV) (its : List Bx.Item), f 1 = .int .i64 now ∧ f 2 = ptQ b2 ∧ f 5 = .slice acu t.ctrs.length ccu ∧ f 6 = .slice ab t.ticks.toNat cb ∧ f 7 = .slice avc (choS t now).length cvc ∧ f 8 = v8 ∧ f 9 = .int .i64 (i : Int) ∧ StX [] w0 w [rowI (v8) 43 5 (boxL t ((choS t now).take i)).length css.flatten, packI its] ∧ (i ≤ (choS t now).length) ∧ (∀ w2 : World, (∀ it ∈ itsC, it.ok w2) → (∀ it ∈ its, it.ok w2) → Bx.Rows w2 5 RBxs (css) ((boxL t ((choS t now).take i)).map (toBxs t.frm))) ∧ zz = (choS t now).length - i) _ ⟨_, rfl, 0, _, [], [], rfl, rfl, rfl, rfl, rfl, rfl, rfl, ((StX.pack (M := []) hS).nilrow 43 5), (Nat.zero_le _), (fun _ _ _ => trivial), rfl⟩ ?_
 clear hS
 rintro f w _ ⟨i, v8, css, its, h1, h2, h5, h6, h7, h8, h9, hS, hi, hrs, rfl⟩
 refine seq <| seq <| region <| sv (yMove h9) <| sv (yMove h7) <| sv (yLen rfl underlying59) <| sv (yLss rfl rfl) <| nil <| cwQ ?_
 refine cond rfl (fun c33 => ?_) (fun c33 => ?_)
 ·
  simp only [BS, ne_eq] at c33
  have hil : i < (choS t now).length := by omega
  obtain ⟨gch, mv, hgc, hvi, hci⟩ := ch_at hrow0 hvl hil
  obtain ⟨x, hx⟩ : ∃ x, (choS t now)[i]? = some x := ⟨_, List.getElem?_eq_getElem hil⟩
  have hxm := List.mem_of_getElem? hx
  have hxv := cho_valid hxm
  obtain ⟨hxl, hxn, hxb, hxi⟩ := cho_facts hok hxm
  have hmv : ∀ w2 : World, (∀ it ∈ itsC, it.ok w2) → Sl w2 1 RInt mv x.1 := fun w2 h2 => rrow_at (hr w2 trivial h2) hvi (by rw [List.getElem?_map, hx]; rfl)
  have hm0 := hmv w0 hiC
  obtain ⟨am, cm, rfl, -⟩ := id hm0
  have hbd := box_bd (now := now) (k := i) hok
  refine skip <| cwQ <| seq <| block <| seq <| region <| sv (yMove h6) <| sv (yAsg rfl) <| nil ?_
  refine cwQ <| seq <| seq <| region <| sv (yAsg rfl) <| nil <| cwQ <| block <| loop (fun f w zz => ∃ (k : Nat) (asv : Option Addr) (csv : Nat) (itS : List Bx.Item), f 1 = .int .i64 now ∧ f 2 = ptQ b2 ∧ f 5 = .slice acu t.ctrs.length ccu ∧ f 6 = .slice ab t.ticks.toNat cb ∧ f 7 = .slice avc (choS t now).length cvc ∧ f 8 = v8 ∧ f 9 = .int .i64 (i : Int) ∧ f 10 = .slice asv t.ticks.toNat csv ∧ f 11 = .int .i64 (k : Int) ∧ StX [] w0 w [packI itS, rowI (v8) 43 5 (boxL t ((choS t now).take i)).length css.flatten, packI its] ∧ (k ≤ t.ctrs.length) ∧ (∀ w2 : World, Ext w0 w2 → (∀ it ∈ itS, it.ok w2) → Sl w2 2 RSpan (.slice asv t.ticks.toNat csv) (leftN t (curS t now) x.1 (baseS t now) k)) ∧ zz = t.ctrs.length - k) _ ⟨_, rfl, 0, _, _, [], h1, h2, h5, h6, h7, h8, h9, rfl, rfl, (StX.pack (M := []) hS), (Nat.zero_le _), (fun w2 e _ => hbs.ext RSpan.stays e), rfl⟩ ?_
  clear hS
  rintro f w _ ⟨k, asv, csv, itS, h1, h2, h5, h6, h7, h8, h9, h10, h11, hS, hk, hs, rfl⟩
  refine seq <| seq <| region <| sv (yMove h11) <| sv (yMove h5) <| sv (yLen rfl underlying39) <| sv (yLss rfl rfl) <| nil <| cwQ ?_
  refine cond rfl (fun c40 => ?_) (fun c40 => ?_)
  ·
   simp only [BS, ne_eq] at c40
   have hkl : k < t.ctrs.length := by omega
   obtain ⟨bq, oq, cq, haq, -, hcq, hRq, -⟩ := sl_at hm0 (show x.1[k]? = some (x.1.getD k (-1)) by simp [List.getD, show k < x.1.length by omega])
   obtain ⟨rfl, -⟩ := hRq
   refine skip <| cwQ <| seq <| block <| seq <| seq <| region <| sv (yMove h7) <| sv (yMove h9) ?_
   refine sv (yIxQ rfl hgc rfl runUnderlying59 sizeOf39) <| sv (yLd rfl isAgg39 (hS.ext.cell hci)) <| sv (yMove h11) <| sv (yIxQ rfl haq rfl runUnderlying39 sizeOf3) <| sv (yLd rfl isAgg3 (hcq.ext hS.ext).one) <| sv (yLss rfl rfl) <| nil <| cwQ ?_
   refine cond rfl (fun c50 => ?_) (fun c50 => ?_)
   ·
    simp only [BS, ne_eq] at c50
    refine exit <| cwQ <| region <| sv (yMove h11) <| sv (yAdd rfl rfl ⟨by omega, by omega⟩) <| sv (yAsg rfl) <| nil ?_
    exact ⟨_, _, rfl, ⟨k + 1, _, _, _, h1, h2, h5, h6, h7, h8, h9, h10, rfl, hS, (by omega), (fun w2 e hi => by rw [left_skip c50]; exact hs w2 e hi), rfl⟩, by omega⟩
   ·
    simp only [BS, ne_eq] at c50
    obtain ⟨hcv, hmm⟩ := hxv k (by omega) (by omega)
    rw [cur_at hkl] at hcv hmm
    obtain ⟨hfl, hfo⟩ := cur_fct hok hcv
    obtain ⟨fi, hfi⟩ := Int.eq_ofNat_of_zero_le hcv
    obtain ⟨mi, hmi⟩ := Int.eq_ofNat_of_zero_le (show 0 ≤ (x.1.getD k (-1)) by omega)
    have hleft : leftN t (curS t now) x.1 (baseS t now) (k + 1) = (meetS (leftN t (curS t now) x.1 (baseS t now) k) (tubeS t (fct t.fcs fi) (mem (fct t.fcs fi) mi))) := by rw [left_meet (by omega), cur_at hkl, hfi, hmi, Int.toNat_natCast, Int.toNat_natCast]
    rw [hfi, Int.toNat_natCast] at hfl hfo hmm
    rw [hmi, Int.toNat_natCast] at hmm
    have hll : (leftN t (curS t now) x.1 (baseS t now) k).length = t.ticks.toNat := leftN_len _ _ (baseS_len t now) k
    have htl := tubeS_lbd hok hfo hmm
    have hml : (meetS (leftN t (curS t now) x.1 (baseS t now) k) (tubeS t (fct t.fcs fi) (mem (fct t.fcs fi) mi))).length = t.ticks.toNat := by rw [meetS_len (by rw [hll, tubeS_len])]; exact hll
    obtain ⟨bu, ou, cu2, hau, -, hcu2, hRu, -⟩ := sl_at hcu (curS_get t now hkl)
    obtain ⟨rfl, -⟩ := hRu
    rw [hfi] at hcu2
    rw [hmi] at hcq
    refine skip <| cwQ <| seq ?_
    refine region_m (fun w => Ext w0 w) (fun _ => True) [] [] mixed (fun c a a' w h => by obtain ⟨_, v, hv, _⟩ := h; cases hv) hS ?_; clear hS; intro w hS
    refine mq 1 0 [] (by kernel_rfl) rfl hS.ext (fun w hS => (yLdBA h2 isAgg29 sizeOf29 (hS.get hb2) rfl rfl)) <| mq 0 1 [] (by kernel_rfl) rfl trivial (fun w hS => (yMove h5)) <| mq 0 2 [] (by kernel_rfl) rfl trivial (fun w hS => (yMove h11)) <| mq 0 3 [] (by kernel_rfl) rfl trivial (fun w hS => (yIxQ rfl hau rfl runUnderlying39 sizeOf3)) <| mq 1 4 [] (by kernel_rfl) rfl hS.ext (fun w hS => (yLd rfl isAgg3 (hcu2.ext hS).one)) <| mq 0 5 [] (by kernel_rfl) rfl trivial (fun w hS => (yMove h7)) <| mq 0 6 [] (by kernel_rfl) rfl trivial (fun w hS => (yMove h9)) <| mq 0 7 [] (by kernel_rfl) rfl trivial (fun w hS => (yIxQ rfl hgc rfl runUnderlying59 sizeOf39)) <| mq 1 8 [] (by kernel_rfl) rfl hS.ext (fun w hS => (yLd rfl isAgg39 (hS.cell hci))) ?_
    refine mq 0 9 [] (by kernel_rfl) rfl trivial (fun w hS => (yMove h11)) <| mq 0 10 [] (by kernel_rfl) rfl trivial (fun w hS => (yIxQ rfl haq rfl runUnderlying39 sizeOf3)) <| mq 1 11 [] (by kernel_rfl) rfl hS.ext (fun w hS => (yLd rfl isAgg3 (hcq.ext hS).one)) <| m1 12 (by kernel_rfl) rfl ?_
    refine scall call87 (.cons rfl (.cons rfl (.cons rfl .nil))) (c_rtube (ht1.ext hS.ext) hok hfl hmm) ?_
    rintro tv w hM; replace hS := hS.call1 hM; clear hM
    obtain ⟨atv, ctv, rfl⟩ := row_shape (hS.row tv)
    refine nil ⟨⟨fun _ _ => hS.ext, fun _ _ => trivial⟩, mw ?_⟩
    refine mq 0 13 [] (by kernel_rfl) rfl trivial (fun w hS => (yAsg rfl)) <| me (by kernel_rfl) <| cwQ <| seq <| region <| sv (yAsg rfl) <| nil <| cwQ <| seq ?_
    refine seq <| region <| sv (yAsg rfl) <| nil <| cwQ <| block <| loop (fun f w zz => ∃ (j : Nat) (bv : Value), f 1 = .int .i64 now ∧ f 2 = ptQ b2 ∧ f 5 = .slice acu t.ctrs.length ccu ∧ f 6 = .slice ab t.ticks.toNat cb ∧ f 7 = .slice avc (choS t now).length cvc ∧ f 8 = v8 ∧ f 9 = .int .i64 (i : Int) ∧ f 10 = .slice asv t.ticks.toNat csv ∧ f 11 = .int .i64 (k : Int) ∧ f 12 = .slice atv t.ticks.toNat ctv ∧ f 13 = bv ∧ f 14 = .int .i64 (j : Int) ∧ StX [] w0 w [rowI (bv) 74 2 j (((meetS (leftN t (curS t now) x.1 (baseS t now) k) (tubeS t (fct t.fcs fi) (mem (fct t.fcs fi) mi))).take j).flatMap spanC), rowI (.slice atv t.ticks.toNat ctv) 74 2 t.ticks.toNat (((tubeS t (fct t.fcs fi) (mem (fct t.fcs fi) mi))).flatMap spanC), packI itS, rowI (v8) 43 5 (boxL t ((choS t now).take i)).length css.flatten, packI its] ∧ (j ≤ t.ticks.toNat) ∧ zz = t.ticks.toNat - j) _ ⟨_, rfl, 0, _, h1, h2, h5, h6, h7, h8, h9, h10, h11, rfl, rfl, rfl, (hS.nilrow 74 2), (Nat.zero_le _), rfl⟩ ?_
    clear hS
    rintro f w _ ⟨j, bv, h1, h2, h5, h6, h7, h8, h9, h10, h11, h12, h13, h14, hS, hj, rfl⟩
    refine seq <| seq <| region <| sv (yMove h14) <| sv (yMove h10) <| sv (yLen rfl underlying86) <| sv (yLss rfl rfl) <| nil <| cwQ ?_
    refine cond rfl (fun c67 => ?_) (fun c67 => ?_)
    ·
     simp only [BS, ne_eq] at c67
     have hjl : j < t.ticks.toNat := by omega
     obtain ⟨gt, rfl, -⟩ := row_get (hS.row (.slice atv t.ticks.toNat ctv)) (by omega)
     obtain ⟨bs9, os9, -, has, -⟩ := sl_at (hs w hS.ext (hS.ok (packI itS) (by simp))) (spn_get (show j < (leftN t (curS t now) x.1 (baseS t now) k).length by rw [hll]; exact hjl))
     have hs9 : ∀ w2 : World, Ext w0 w2 → (∀ it ∈ itS, it.ok w2) → Sl w2 2 RSpan (.slice (some ⟨bs9, os9, none⟩) t.ticks.toNat csv) (leftN t (curS t now) x.1 (baseS t now) k) := by rw [← has]; exact hs
     refine skip <| cwQ <| seq <| block ?_
     refine region_m (fun w => StX [] w0 w [rowI (.slice (some ⟨gt, 0, none⟩) t.ticks.toNat ctv) 74 2 t.ticks.toNat (((tubeS t (fct t.fcs fi) (mem (fct t.fcs fi) mi))).flatMap spanC), packI itS]) (fun _ => True) [] [] mixed (fun c a a' w h => by obtain ⟨_, v, hv, _⟩ := h; cases hv) hS ?_; clear hS; intro w hS
     refine mq 0 0 [] (by kernel_rfl) rfl trivial (fun w hS => (yMove h13)) <| mq 0 1 [] (by kernel_rfl) rfl trivial (fun w hS => (yMove h10)) <| mq 0 2 [] (by kernel_rfl) rfl trivial (fun w hS => (yMove h14)) <| mq 0 3 [] (by kernel_rfl) rfl trivial (fun w hS => (yIxQ rfl has rfl runUnderlying86 sizeOf74)) ?_
     refine mq 1 4 [] (by kernel_rfl) rfl (sbQ hS) (fun w hS => (yLdA rfl isAgg74 sizeOf74 (spn_cell (hs9 w hS.ext (hS.ok (packI itS) (by simp))) (by rw [hll]; exact hjl)) rfl)) ?_
     refine mq 0 5 [] (by kernel_rfl) rfl trivial (fun w hS => (yMove h12)) <| mq 0 6 [] (by kernel_rfl) rfl trivial (fun w hS => (yMove h14)) <| mq 0 7 [] (by kernel_rfl) rfl trivial (fun w hS => (yIxQ rfl rfl rfl runUnderlying86 sizeOf74)) ?_
     refine mq 1 8 [] (by kernel_rfl) rfl (sbQ hS) (fun w hS => (yLdA rfl isAgg74 sizeOf74 (spn_cell (sl_spans (hS.row (.slice (some ⟨gt, 0, none⟩) t.ticks.toNat ctv)) (tubeS_len ..) (lbd_i64 htl)) (by rw [tubeS_len]; exact hjl)) rfl)) ?_
     refine m1 9 (by kernel_rfl) rfl ?_
     refine scV hS call88 (.cons rfl (.cons rfl .nil)) (c_rcommon (a := spn (leftN t (curS t now) x.1 (baseS t now) k) j) (b := spn (tubeS t (fct t.fcs fi) (mem (fct t.fcs fi) mi)) j)) ?_; clear hS; intro w hS
     refine nil ⟨⟨fun _ _ => (sbQ hS), fun _ _ => trivial⟩, mw ?_⟩
     refine m1 10 (by kernel_rfl) rfl ?_
     refine sbslice hS underlying86 sizeOf74 rfl zeroValue74 rfl (.cons rfl rfl .nil) rfl ?_; clear hS; intro b80 w hS
     refine nil ⟨⟨fun _ _ => (sbQ hS), fun _ _ => trivial⟩, mw ?_⟩
     refine m1 11 (by kernel_rfl) rfl ?_
     refine sapp (bytes := 16) (size := 2) (v := bv) (m := 1) hS rfl rfl underlying86 ti74 rfl rfl rfl rfl (by decide) (blk_cells (hS.at _)) rfl rfl (by omega) (by omega) ?_; clear hS; intro v81 w hS
     refine nil ⟨⟨fun _ _ => (sbQ hS), fun _ _ => trivial⟩, mw ?_⟩
     refine mq 0 12 [] (by kernel_rfl) rfl trivial (fun w hS => (yAsg rfl)) <| me (by kernel_rfl) <| cwQ <| region <| sv (yMove h14) <| sv (yAdd rfl rfl ⟨by omega, by omega⟩) <| sv (yAsg rfl) <| nil ?_
     exact ⟨_, _, rfl, ⟨j + 1, _, h1, h2, h5, h6, h7, h8, h9, h10, h11, h12, rfl, rfl, (by rw [take_snoc (meet_get (by rw [hll]; exact hjl) (by rw [tubeS_len]; exact hjl)), List.flatMap_append]; exact sbQ hS), (by omega), rfl⟩, by omega⟩
    ·
     simp only [BS, ne_eq] at c67
     obtain rfl : j = t.ticks.toNat := by omega
     rw [show (meetS (leftN t (curS t now) x.1 (baseS t now) k) (tubeS t (fct t.fcs fi) (mem (fct t.fcs fi) mi))).take t.ticks.toNat = (meetS (leftN t (curS t now) x.1 (baseS t now) k) (tubeS t (fct t.fcs fi) (mem (fct t.fcs fi) mi))) from List.take_of_length_le (by rw [hml]; exact Nat.le_refl _)] at hS
     obtain ⟨abv, cbv, rfl⟩ := row_shape (hS.row bv)
     refine exit <| cwQ <| region <| sv (yMove h13) <| sv (yAsg rfl) <| nil <| cwQ <| region <| sv (yMove h11) ?_
     refine sv (yAdd rfl rfl ⟨by omega, by omega⟩) <| sv (yAsg rfl) <| nil ?_
     exact ⟨_, _, rfl, ⟨k + 1, _, _, [rowI (.slice abv t.ticks.toNat cbv) 74 2 t.ticks.toNat (((meetS (leftN t (curS t now) x.1 (baseS t now) k) (tubeS t (fct t.fcs fi) (mem (fct t.fcs fi) mi)))).flatMap spanC)], h1, h2, h5, h6, h7, h8, h9, rfl, rfl, (StX.pack (M := [_]) (hS.sub (.cons_cons _ (.cons _ (.cons _ lrQ))))), (by omega), (fun w2 e hi => by
      rw [hleft]
      exact sl_spans (hi _ (List.mem_cons_self ..)) hml (lbd_i64 (by rw [← hleft]; exact leftN_lbd hok hxv hxl (k + 1) (by omega)))), rfl⟩, by omega⟩
  ·
   simp only [BS, ne_eq] at c40
   obtain rfl : k = t.ctrs.length := by omega
   rw [show leftN t (curS t now) x.1 (baseS t now) t.ctrs.length = x.2 by rw [← hxl]; exact (cho_left hxm).symm] at hs
   have htb : LBd 40000000 (tightS t.rate x.2) := tight_sbd (by have := hn4.2.2.1; omega) hxb
   refine exit <| cwQ <| seq <| region <| sv (yLdBA h2 isAgg29 sizeOf29 (hS.ext.get hb2) rfl rfl) <| sv (yMove h10) ?_
   refine scall call89 (.cons rfl (.cons rfl .nil)) (c_rtight (ht1.ext hS.ext) hok (hs w hS.ext (hS.ok (packI itS) (by simp))) (by rw [hxn]; omega) hxb) ?_
   rintro _ w ⟨ov, rfl, hM⟩; replace hS := hS.call1 hM; clear hM
   rw [hxn] at hS
   obtain ⟨aov, cov, rfl⟩ := row_shape (hS.row ov)
   refine sv (yMove rfl) <| sv (yExt rfl rfl) <| sv (yExt rfl rfl) <| sv (yAsg rfl) <| sv (yAsg rfl) <| nil <| cwQ <| seq <| seq ?_
   refine region <| sv (yMove rfl) <| sv (yNot rfl) <| nil <| cwQ ?_
   refine cond rfl (fun c90 => ?_) (fun c90 => ?_)
   ·
    have hst : someT t.rate x.2 = false := by simpa using c90
    have hbx : boxL t ((choS t now).take (i + 1)) = boxL t ((choS t now).take i) := by rw [box_snoc hx, if_neg (by rw [hst]; decide), List.append_nil]
    refine exit <| cwQ <| region <| sv (yMove h9) <| sv (yAdd rfl rfl ⟨by omega, by omega⟩) <| sv (yAsg rfl) <| nil ?_
    exact ⟨_, _, rfl, ⟨i + 1, v8, css, its, h1, h2, h5, h6, h7, h8, rfl, (by rw [hbx]; exact sbQ hS), (by omega), (by rw [hbx]; exact hrs), rfl⟩, by omega⟩
   ·
    have hst : someT t.rate x.2 = true := by simpa using c90
    have hbx : boxL t ((choS t now).take (i + 1)) = boxL t ((choS t now).take i) ++ [⟨x.1, (tightS t.rate x.2)⟩] := by rw [box_snoc hx, if_pos hst]
    refine skip <| cwQ <| seq ?_
    refine region_m (fun w => Ext w0 w) (fun _ => True) [] [] mixed (fun c a a' w h => by obtain ⟨_, v, hv, _⟩ := h; cases hv) hS ?_; clear hS; intro w hS
    refine mq 0 0 [] (by kernel_rfl) rfl trivial (fun w hS => (yMove h7)) <| mq 0 1 [] (by kernel_rfl) rfl trivial (fun w hS => (yMove h9)) <| mq 0 2 [] (by kernel_rfl) rfl trivial (fun w hS => (yIxQ rfl hgc rfl runUnderlying59 sizeOf39)) <| mq 1 3 [] (by kernel_rfl) rfl hS.ext (fun w hS => (yLd rfl isAgg39 (hS.cell hci))) <| mq 0 4 [] (by kernel_rfl) rfl trivial (fun w hS => (fa29_3 h2)) <| mq 1 5 [] (by kernel_rfl) rfl hS.ext (fun w hS => (yLdB rfl isAgg3 (hS.get hb2) rfl)) <| mq 0 6 [] (by kernel_rfl) rfl trivial (fun w hS => (yBuild zeroValue41 rfl pl41 (.cons rfl rfl .nil) rfl)) <| mq 0 7 [] (by kernel_rfl) rfl trivial (fun w hS => (fa29_3 h2)) <| mq 1 8 [] (by kernel_rfl) rfl hS.ext (fun w hS => (yLdB rfl isAgg3 (hS.get hb2) rfl)) ?_
    refine mq 0 9 [] (by kernel_rfl) rfl trivial (fun w hS => (yBuild zeroValue41 rfl pl41 (.cons rfl rfl .nil) rfl)) <| mq 0 10 [] (by kernel_rfl) rfl trivial (fun w hS => (yBuild zeroValue43 rfl pl43 (.cons rfl rfl (.cons rfl rfl (.cons rfl rfl .nil))) rfl)) <| m1 11 (by kernel_rfl) rfl ?_
    refine salloc hS zeroValue43 rfl ?_; clear hS; intro b16 w hS
    refine nil ⟨⟨fun _ _ => hS.ext, fun _ _ => trivial⟩, mw ?_⟩
    refine m1 12 (by kernel_rfl) rfl ?_
    refine sst hS rfl rfl sizeOf43 rfl rfl rfl rfl ?_; clear hS; intro w hS
    refine nil ⟨⟨fun _ _ => hS.ext, fun _ _ => trivial⟩, mw ?_⟩
    refine me (by kernel_rfl) <| cwQ <| seq <| seq <| region <| sv (yAsg rfl) <| nil <| cwQ <| block ?_
    refine loop (fun f w zz => ∃ (q : Nat) (lv hv : Value), f 1 = .int .i64 now ∧ f 2 = ptQ b2 ∧ f 5 = .slice acu t.ctrs.length ccu ∧ f 6 = .slice ab t.ticks.toNat cb ∧ f 7 = .slice avc (choS t now).length cvc ∧ f 8 = v8 ∧ f 9 = .int .i64 (i : Int) ∧ f 10 = .slice aov t.ticks.toNat cov ∧ f 16 = ptQ b16 ∧ f 17 = .int .i64 (q : Int) ∧ StX [] w0 w [blk b16 [.slice am x.1.length cm, .int .i64 t.frm, lv, .int .i64 t.frm, hv] 43, rowI (lv) 3 1 q (((losS (tightS t.rate x.2)).take q).flatMap Bx.encI), rowI (hv) 3 1 q (((hisS (tightS t.rate x.2)).take q).flatMap Bx.encI), rowI (.slice aov t.ticks.toNat cov) 74 2 t.ticks.toNat (((tightS t.rate x.2)).flatMap spanC), rowI (v8) 43 5 (boxL t ((choS t now).take i)).length css.flatten, packI its] ∧ (q ≤ t.ticks.toNat) ∧ zz = t.ticks.toNat - q) _ ⟨_, rfl, 0, _, _, h1, h2, h5, h6, h7, h8, h9, rfl, rfl, rfl, box_pre (hS.sub (.cons_cons _ (.cons_cons _ (.cons _ lrQ)))), (Nat.zero_le _), rfl⟩ ?_
    clear hS
    rintro f w _ ⟨q, lv, hv, h1, h2, h5, h6, h7, h8, h9, h10, h16, h17, hS, hq, rfl⟩
    refine seq <| seq <| region <| sv (yMove h17) <| sv (yMove h10) <| sv (yLen rfl underlying86) <| sv (yLss rfl rfl) <| nil <| cwQ ?_
    refine cond rfl (fun c105 => ?_) (fun c105 => ?_)
    ·
     simp only [BS, ne_eq] at c105
     have hql : q < t.ticks.toNat := by omega
     obtain ⟨go, rfl, -⟩ := row_get (hS.row (.slice aov t.ticks.toNat cov)) (by omega)
     have hqb := htb q (by rw [tightS_len, hxn]; exact hql)
     unfold SBd at hqb
     have hov : ∀ w : World, w.ownsRow 0 74 2 (.slice (some ⟨go, 0, none⟩) t.ticks.toNat cov) t.ticks.toNat ((tightS t.rate x.2).flatMap spanC) → Cells w go (0 + q * 2) (spanC (spn (tightS t.rate x.2) q)) := fun w h => spn_cell (sl_spans h ((tightS_len ..).trans hxn) (lbd_i64 htb)) (by rw [tightS_len, hxn]; exact hql)
     refine skip <| cwQ <| seq <| block ?_
     refine region_m (fun w => w.cell? ⟨b16, 2, none⟩ = some lv ∧ Cells w go (0 + q * 2) (spanC (spn (tightS t.rate x.2) q))) (fun w => w.cell? ⟨b16, 4, none⟩ = some hv ∧ Cells w go (0 + q * 2) (spanC (spn (tightS t.rate x.2) q))) [22] [25] mixed (fun c a a' w h => by obtain ⟨_, v, hv, _⟩ := h; cases hv) hS ?_; clear hS; intro w hS
     refine mq 0 0 [] (by kernel_rfl) rfl trivial (fun w hS => (fa43_1 h16)) <| mq 0 1 [] (by kernel_rfl) rfl trivial (fun w hS => (fa41_1 rfl)) <| mq 1 2 [9, 19, 20, 21, 22] (by kernel_rfl) rfl ⟨cell_of (hS.at b16) (o := 2) rfl, hov _ (hS.row _)⟩ (fun w hS => (yLd rfl isAgg39 hS.1)) <| mq 0 3 [] (by kernel_rfl) rfl trivial (fun w hS => (yMove h10)) <| mq 0 4 [] (by kernel_rfl) rfl trivial (fun w hS => (yMove h17)) <| mq 0 5 [] (by kernel_rfl) rfl trivial (fun w hS => (yIxQ rfl rfl rfl runUnderlying86 sizeOf74)) <| mq 0 6 [] (by kernel_rfl) rfl trivial (fun w hS => (fa74_0 rfl)) <| mq 1 7 [8, 9, 19, 20, 21, 22] (by kernel_rfl) rfl ⟨cell_of (hS.at b16) (o := 2) rfl, hov _ (hS.row _)⟩ (fun w hS => (yLd rfl isAgg3 (hS.2.at (j := 0) rfl))) <| mq 0 10 [] (by kernel_rfl) rfl trivial (fun w hS => (fa43_2 h16)) ?_
     refine mq 0 11 [] (by kernel_rfl) rfl trivial (fun w hS => (fa41_1 rfl)) <| mq 2 12 [19, 20, 21, 22, 23, 24, 25] (by kernel_rfl) rfl ⟨cell_of (hS.at b16) (o := 4) rfl, hov _ (hS.row _)⟩ (fun w hS => (yLd rfl isAgg39 hS.1)) <| mq 0 13 [] (by kernel_rfl) rfl trivial (fun w hS => (yMove h10)) <| mq 0 14 [] (by kernel_rfl) rfl trivial (fun w hS => (yMove h17)) <| mq 0 15 [] (by kernel_rfl) rfl trivial (fun w hS => (yIxQ rfl rfl rfl runUnderlying86 sizeOf74)) <| mq 0 16 [] (by kernel_rfl) rfl trivial (fun w hS => (fa74_1 rfl)) <| mq 2 17 [18, 19, 22, 23, 24, 25] (by kernel_rfl) rfl ⟨cell_of (hS.at b16) (o := 4) rfl, hov _ (hS.row _)⟩ (fun w hS => (yLd rfl isAgg3 (hS.2.at (j := 1) rfl))) ?_
     refine ms (i := 8) (is := [18]) (by kernel_rfl) ⟨⟨_, rfl, ?_⟩, ⟨_, rfl, ?_⟩, trivial⟩
     ·
      refine sbslice hS underlying39 sizeOf3 rfl zeroValue3 rfl (.cons rfl rfl .nil) rfl ?_; clear hS; intro b116 w hS
      refine nil ⟨⟨fun _ _ => ⟨cell_of (hS.at b16) (o := 2) rfl, hov _ (hS.row _)⟩, fun _ _ => ⟨cell_of (hS.at b16) (o := 4) rfl, hov _ (hS.row _)⟩⟩, mw ?_⟩
      refine ms (i := 9) (is := [18]) (by kernel_rfl) ⟨⟨_, rfl, ?_⟩, ⟨_, rfl, ?_⟩, trivial⟩
      ·
       refine sapp (bytes := 8) (size := 1) (v := lv) (m := 1) hS rfl rfl underlying39 ti3 rfl rfl rfl rfl (by decide) (blk_cells (hS.at _)) rfl rfl (by omega) (by omega) ?_; clear hS; intro v117 w hS
       refine nil ⟨⟨fun _ _ => ⟨cell_of (hS.at b16) (o := 2) rfl, hov _ (hS.row _)⟩, fun _ _ => ⟨cell_of (hS.at b16) (o := 4) rfl, hov _ (hS.row _)⟩⟩, mw ?_⟩
       refine mq 0 20 [] (by kernel_rfl) rfl trivial (fun w hS => (fa43_1 h16)) <| mq 0 21 [] (by kernel_rfl) rfl trivial (fun w hS => (fa41_1 rfl)) <| m1 18 (by kernel_rfl) rfl ?_
       refine sbslice hS underlying39 sizeOf3 rfl zeroValue3 rfl (.cons rfl rfl .nil) rfl ?_; clear hS; intro b126 w hS
       refine nil ⟨⟨fun _ _ => ⟨cell_of (hS.at b16) (o := 2) rfl, hov _ (hS.row _)⟩, fun _ _ => ⟨cell_of (hS.at b16) (o := 4) rfl, hov _ (hS.row _)⟩⟩, mw ?_⟩
       refine m1 19 (by kernel_rfl) rfl ?_
       refine sapp (bytes := 8) (size := 1) (v := hv) (m := 1) hS rfl rfl underlying39 ti3 rfl rfl rfl rfl (by decide) (blk_cells (hS.at _)) rfl rfl (by omega) (by omega) ?_; clear hS; intro v127 w hS
       refine nil ⟨⟨fun _ _ => ⟨cell_of (hS.at b16) (o := 2) rfl, hov _ (hS.row _)⟩, fun _ _ => ⟨cell_of (hS.at b16) (o := 4) rfl, hov _ (hS.row _)⟩⟩, mw ?_⟩
       refine m1 22 (by kernel_rfl) rfl ?_
       obtain ⟨a117, c117, rfl⟩ := row_shape (hS.row v117)
       refine sst hS rfl rfl sizeOf39 rfl rfl rfl rfl ?_; clear hS; intro w hS
       refine nil ⟨⟨fun h => absurd h (by decide), fun _ _ => ⟨cell_of (hS.at b16) (o := 4) rfl, hov _ (hS.row _)⟩⟩, mw ?_⟩
       refine mq 0 23 [] (by kernel_rfl) rfl trivial (fun w hS => (fa43_2 h16)) <| mq 0 24 [] (by kernel_rfl) rfl trivial (fun w hS => (fa41_1 rfl)) <| m1 25 (by kernel_rfl) rfl ?_
       have hS0 := hS
       obtain ⟨a127, c127, rfl⟩ := row_shape (hS.row v127)
       refine sst hS rfl rfl sizeOf39 rfl rfl rfl rfl ?_; clear hS; intro w hS
       refine nil ⟨⟨fun _ h => ⟨(cell_of (hS.at b16) (o := 2) rfl).trans ((cell_of (hS0.at b16) (o := 2) rfl).symm.trans h.1), hov _ (hS.row _)⟩, fun h => absurd h (by decide)⟩, mw ?_⟩
       refine me (by kernel_rfl) <| cwQ <| region <| sv (yMove h17) <| sv (yAdd rfl rfl ⟨by omega, by omega⟩) <| sv (yAsg rfl) <| nil ?_
       exact ⟨_, _, rfl, ⟨q + 1, _, _, h1, h2, h5, h6, h7, h8, h9, h10, h16, rfl, (by rw [take_snoc (los_get (by rw [tightS_len, hxn]; exact hql)), take_snoc (his_get (by rw [tightS_len, hxn]; exact hql)), List.flatMap_append, List.flatMap_append]; exact sbQ hS), (by omega), rfl⟩, by omega⟩
      ·
       refine sbslice hS underlying39 sizeOf3 rfl zeroValue3 rfl (.cons rfl rfl .nil) rfl ?_; clear hS; intro b126 w hS
       refine nil ⟨⟨fun _ _ => ⟨cell_of (hS.at b16) (o := 2) rfl, hov _ (hS.row _)⟩, fun _ _ => ⟨cell_of (hS.at b16) (o := 4) rfl, hov _ (hS.row _)⟩⟩, mw ?_⟩
       refine m1 9 (by kernel_rfl) rfl ?_
       refine sapp (bytes := 8) (size := 1) (v := lv) (m := 1) hS rfl rfl underlying39 ti3 rfl rfl rfl rfl (by decide) (blk_cells (hS.at _)) rfl rfl (by omega) (by omega) ?_; clear hS; intro v117 w hS
       refine nil ⟨⟨fun _ _ => ⟨cell_of (hS.at b16) (o := 2) rfl, hov _ (hS.row _)⟩, fun _ _ => ⟨cell_of (hS.at b16) (o := 4) rfl, hov _ (hS.row _)⟩⟩, mw ?_⟩
       refine mq 0 20 [] (by kernel_rfl) rfl trivial (fun w hS => (fa43_1 h16)) <| mq 0 21 [] (by kernel_rfl) rfl trivial (fun w hS => (fa41_1 rfl)) <| m1 19 (by kernel_rfl) rfl ?_
       refine sapp (bytes := 8) (size := 1) (v := hv) (m := 1) hS rfl rfl underlying39 ti3 rfl rfl rfl rfl (by decide) (blk_cells (hS.at _)) rfl rfl (by omega) (by omega) ?_; clear hS; intro v127 w hS
       refine nil ⟨⟨fun _ _ => ⟨cell_of (hS.at b16) (o := 2) rfl, hov _ (hS.row _)⟩, fun _ _ => ⟨cell_of (hS.at b16) (o := 4) rfl, hov _ (hS.row _)⟩⟩, mw ?_⟩
       refine m1 22 (by kernel_rfl) rfl ?_
       obtain ⟨a117, c117, rfl⟩ := row_shape (hS.row v117)
       refine sst hS rfl rfl sizeOf39 rfl rfl rfl rfl ?_; clear hS; intro w hS
       refine nil ⟨⟨fun h => absurd h (by decide), fun _ _ => ⟨cell_of (hS.at b16) (o := 4) rfl, hov _ (hS.row _)⟩⟩, mw ?_⟩
       refine mq 0 23 [] (by kernel_rfl) rfl trivial (fun w hS => (fa43_2 h16)) <| mq 0 24 [] (by kernel_rfl) rfl trivial (fun w hS => (fa41_1 rfl)) <| m1 25 (by kernel_rfl) rfl ?_
       have hS0 := hS
       obtain ⟨a127, c127, rfl⟩ := row_shape (hS.row v127)
       refine sst hS rfl rfl sizeOf39 rfl rfl rfl rfl ?_; clear hS; intro w hS
       refine nil ⟨⟨fun _ h => ⟨(cell_of (hS.at b16) (o := 2) rfl).trans ((cell_of (hS0.at b16) (o := 2) rfl).symm.trans h.1), hov _ (hS.row _)⟩, fun h => absurd h (by decide)⟩, mw ?_⟩
       refine me (by kernel_rfl) <| cwQ <| region <| sv (yMove h17) <| sv (yAdd rfl rfl ⟨by omega, by omega⟩) <| sv (yAsg rfl) <| nil ?_
       exact ⟨_, _, rfl, ⟨q + 1, _, _, h1, h2, h5, h6, h7, h8, h9, h10, h16, rfl, (by rw [take_snoc (los_get (by rw [tightS_len, hxn]; exact hql)), take_snoc (his_get (by rw [tightS_len, hxn]; exact hql)), List.flatMap_append, List.flatMap_append]; exact sbQ hS), (by omega), rfl⟩, by omega⟩
     ·
      refine sbslice hS underlying39 sizeOf3 rfl zeroValue3 rfl (.cons rfl rfl .nil) rfl ?_; clear hS; intro b126 w hS
      refine nil ⟨⟨fun _ _ => ⟨cell_of (hS.at b16) (o := 2) rfl, hov _ (hS.row _)⟩, fun _ _ => ⟨cell_of (hS.at b16) (o := 4) rfl, hov _ (hS.row _)⟩⟩, mw ?_⟩
      refine m1 8 (by kernel_rfl) rfl ?_
      refine sbslice hS underlying39 sizeOf3 rfl zeroValue3 rfl (.cons rfl rfl .nil) rfl ?_; clear hS; intro b116 w hS
      refine nil ⟨⟨fun _ _ => ⟨cell_of (hS.at b16) (o := 2) rfl, hov _ (hS.row _)⟩, fun _ _ => ⟨cell_of (hS.at b16) (o := 4) rfl, hov _ (hS.row _)⟩⟩, mw ?_⟩
      refine m1 9 (by kernel_rfl) rfl ?_
      refine sapp (bytes := 8) (size := 1) (v := lv) (m := 1) hS rfl rfl underlying39 ti3 rfl rfl rfl rfl (by decide) (blk_cells (hS.at _)) rfl rfl (by omega) (by omega) ?_; clear hS; intro v117 w hS
      refine nil ⟨⟨fun _ _ => ⟨cell_of (hS.at b16) (o := 2) rfl, hov _ (hS.row _)⟩, fun _ _ => ⟨cell_of (hS.at b16) (o := 4) rfl, hov _ (hS.row _)⟩⟩, mw ?_⟩
      refine mq 0 20 [] (by kernel_rfl) rfl trivial (fun w hS => (fa43_1 h16)) <| mq 0 21 [] (by kernel_rfl) rfl trivial (fun w hS => (fa41_1 rfl)) <| m1 19 (by kernel_rfl) rfl ?_
      refine sapp (bytes := 8) (size := 1) (v := hv) (m := 1) hS rfl rfl underlying39 ti3 rfl rfl rfl rfl (by decide) (blk_cells (hS.at _)) rfl rfl (by omega) (by omega) ?_; clear hS; intro v127 w hS
      refine nil ⟨⟨fun _ _ => ⟨cell_of (hS.at b16) (o := 2) rfl, hov _ (hS.row _)⟩, fun _ _ => ⟨cell_of (hS.at b16) (o := 4) rfl, hov _ (hS.row _)⟩⟩, mw ?_⟩
      refine m1 22 (by kernel_rfl) rfl ?_
      obtain ⟨a117, c117, rfl⟩ := row_shape (hS.row v117)
      refine sst hS rfl rfl sizeOf39 rfl rfl rfl rfl ?_; clear hS; intro w hS
      refine nil ⟨⟨fun h => absurd h (by decide), fun _ _ => ⟨cell_of (hS.at b16) (o := 4) rfl, hov _ (hS.row _)⟩⟩, mw ?_⟩
      refine mq 0 23 [] (by kernel_rfl) rfl trivial (fun w hS => (fa43_2 h16)) <| mq 0 24 [] (by kernel_rfl) rfl trivial (fun w hS => (fa41_1 rfl)) <| m1 25 (by kernel_rfl) rfl ?_
      have hS0 := hS
      obtain ⟨a127, c127, rfl⟩ := row_shape (hS.row v127)
      refine sst hS rfl rfl sizeOf39 rfl rfl rfl rfl ?_; clear hS; intro w hS
      refine nil ⟨⟨fun _ h => ⟨(cell_of (hS.at b16) (o := 2) rfl).trans ((cell_of (hS0.at b16) (o := 2) rfl).symm.trans h.1), hov _ (hS.row _)⟩, fun h => absurd h (by decide)⟩, mw ?_⟩
      refine me (by kernel_rfl) <| cwQ <| region <| sv (yMove h17) <| sv (yAdd rfl rfl ⟨by omega, by omega⟩) <| sv (yAsg rfl) <| nil ?_
      exact ⟨_, _, rfl, ⟨q + 1, _, _, h1, h2, h5, h6, h7, h8, h9, h10, h16, rfl, (by rw [take_snoc (los_get (by rw [tightS_len, hxn]; exact hql)), take_snoc (his_get (by rw [tightS_len, hxn]; exact hql)), List.flatMap_append, List.flatMap_append]; exact sbQ hS), (by omega), rfl⟩, by omega⟩
    ·
     simp only [BS, ne_eq] at c105
     obtain rfl : q = t.ticks.toNat := by omega
     rw [show (losS (tightS t.rate x.2)).take t.ticks.toNat = losS (tightS t.rate x.2) from List.take_of_length_le (by simp [losS, tightS_len, hxn]), show (hisS (tightS t.rate x.2)).take t.ticks.toNat = hisS (tightS t.rate x.2) from List.take_of_length_le (by simp [hisS, tightS_len, hxn])] at hS
     obtain ⟨alv, clv, rfl⟩ := row_shape (hS.row lv)
     obtain ⟨ahv, chv, rfl⟩ := row_shape (hS.row hv)
     refine exit <| cwQ <| region <| sv (yMove h8) <| sv (yLdBA h16 isAgg43 sizeOf43 (hS.at _) rfl rfl) ?_
     refine sbslice hS underlying35 sizeOf43 rfl zeroValue43 rfl (.cons rfl rfl .nil) rfl ?_; clear hS; intro b134 w hS
     refine sapp (bytes := 88) (size := 5) (v := v8) (m := 1) hS rfl rfl underlying35 ti43 rfl rfl rfl rfl (by decide) (blk_cells (hS.at _)) rfl rfl (by omega) (by omega) ?_; clear hS; intro v135 w hS
     refine sv (yAsg rfl) <| nil <| cwQ <| region <| sv (yMove h9) <| sv (yAdd rfl rfl ⟨by omega, by omega⟩) <| sv (yAsg rfl) <| nil ?_
     exact ⟨_, _, rfl, ⟨i + 1, _, css ++ [[.slice am x.1.length cm, .int .i64 t.frm, .slice alv t.ticks.toNat clv, .int .i64 t.frm, .slice ahv t.ticks.toNat chv]], [rowI (.slice alv t.ticks.toNat clv) 3 1 t.ticks.toNat ((losS (tightS t.rate x.2)).flatMap Bx.encI), rowI (.slice ahv t.ticks.toNat chv) 3 1 t.ticks.toNat ((hisS (tightS t.rate x.2)).flatMap Bx.encI)] ++ its, h1, h2, h5, h6, h7, rfl, rfl, (by rw [hbx, List.length_append, List.flatten_append]; exact box_next (hS.sub (.cons _ (.cons _ (.cons_cons _ (.cons_cons _ (.cons _ lrQ))))))), (by omega), (fun w2 hc hi => by
      have los_n : (losS (tightS t.rate x.2)).length = t.ticks.toNat := by simp [losS, tightS_len, hxn]
      have his_n : (hisS (tightS t.rate x.2)).length = t.ticks.toNat := by simp [hisS, tightS_len, hxn]
      rw [hbx, List.map_append]
      exact Rows.snoc (hrs w2 hc (fun it h => hi it (List.mem_append_right _ h))) rfl ⟨_, _, _, rfl, hf64, hf64, hmv w2 hc, sl_ints (hi _ (List.mem_append_left _ (List.mem_cons_self ..))) los_n (los_i64 htb), sl_ints (hi _ (List.mem_append_left _ (List.mem_cons_of_mem _ (List.mem_cons_self ..)))) his_n (his_i64 htb)⟩), rfl⟩, by omega⟩
 ·
  simp only [BS, ne_eq] at c33
  refine exit <| cwQ <| seq <| region ?_
  obtain rfl : i = (choS t now).length := by omega
  rw [List.take_length] at hS hrs
  replace hS := hS0.call hS
  simp only [List.cons_append, List.nil_append] at hS
  refine sv (yMove h8) <| sv (yAsg rfl) <| nil <| cwQ <| wp_ret <| retQ (res1 rfl rfl) ?_
  exact ⟨css, its ++ itsC, fun w2 hi => hrs w2 (fun it h => hi it (List.mem_append_right _ h)) (fun it h => hi it (List.mem_append_left _ h)), box_end (hS.sub (.cons_cons _ (.cons_cons _ (.cons _ (.cons_cons _ (List.nil_sublist _))))))⟩
end Go.Proofs.YtgidbailiababaaGreatDoor

/- part Sy17 -/
namespace Go.Proofs.YtgidbailiababaaGreatDoor
open Go Bx Go.Proofs.Tryz
set_option maxHeartbeats 1000000 in
theorem c_rBoxes {t : Sgt} {cs : List Value} {now : Int} {w0 : World} (h : RSgt w0 cs t) : CE Tryz.prog 21 #[.agg cs.toArray, .int .i64 now] w0 (fun u w' => ∃ v its, u = .tuple #[v, .int .i64 (boxR t now).2] ∧ (∀ w2 : World, (∀ it ∈ its, it.ok w2) → Sl w2 5 RBxs v (((boxR t now).1).map (toBxs t.frm))) ∧ St w0 w' [packI its]) := by
 obtain ⟨cv, gv, tv, fv, rfl, hT, hG, hw64, hf64, hk64, hC, hF, hl64, hm64, hr64, hq64⟩ := id h
 obtain ⟨ag, cg, rfl, hgcap, hgmx, hgel⟩ := id hG
 obtain ⟨ak, ck, rfl, hkcap, hkmx, hkel⟩ := id hC
 obtain ⟨ae, ce, rfl, hecap, hemx, heel⟩ := id hF
 refine enter func21 rfl ntmps21 rfl ?_
 have hS := St.start w0
 refine seq <| region ?_
 refine sbox hS rfl rfl ?_; clear hS; intro b2 w hS
 refine sv (yAsg rfl) <| sv (yAsg rfl) <| nil <| cwQ <| seq <| region <| sv (yLdBA rfl isAgg29 sizeOf29 (hS.at _) rfl rfl) <| sv (yMove rfl) ?_
 refine scV hS call65 (.cons rfl (.cons rfl .nil)) (c_ask (h.ext hS.ext)) ?_; clear hS; intro w hS
 refine sv (yAsg rfl) <| nil <| cwQ <| seq <| seq <| region <| sv (yMove rfl) <| sv (yNeq rfl rfl) <| nil ?_
 refine cwQ ?_
 refine cond rfl (fun c11 => ?_) (fun c11 => ?_)
 ·
  simp only [BS, ne_eq] at c11
  refine seq <| region <| sv (yMove rfl) <| sv (yAsg rfl) <| sv (yAsg rfl) <| nil <| cwQ ?_
  refine wp_ret (thenR ?_)
  refine retQ (res2 rfl rfl rfl) ?_
  have hf : boxR t now = ([], askE t now) := by unfold boxR; rw [if_pos c11]
  rw [hf]
  exact ⟨_, [], rfl, fun _ _ => sl_none, its0 hS⟩
 ·
  simp only [BS, ne_eq] at c11
  obtain ⟨hok, hnow⟩ := askE_ok c11
  refine skip <| cwQ <| seq <| region <| sv (yLdBA rfl isAgg29 sizeOf29 (hS.at _) rfl rfl) <| sv (yMove rfl) ?_
  refine scall call66 (.cons rfl (.cons rfl .nil)) (c_rboxes (h.ext hS.ext) hok hnow) ?_
  rintro bv w ⟨css, its, hr, hM⟩; replace hS := hS.call hM; clear hM; simp only [List.cons_append, List.nil_append] at hS
  refine sv (yAsg rfl) <| sv (yAsg rfl) <| nil <| cwQ <| wp_ret <| retQ (res2 rfl rfl rfl) ?_
  have hf : boxR t now = (boxS t now, 0) := by unfold boxR; rw [if_neg (fun k => k c11)]
  rw [hf]
  exact ⟨_, rowI bv 43 5 (boxS t now).length css.flatten :: its, rfl, fun w2 hi => sl_of_row (hi (rowI bv 43 5 (boxS t now).length css.flatten) (List.mem_cons_self ..)) (hr w2 (fun it h => hi it (List.mem_cons_of_mem _ h))) (List.length_map ..), box_pk hS⟩
end Go.Proofs.YtgidbailiababaaGreatDoor

/- part Sy18 -/
namespace Go.Proofs.YtgidbailiababaaGreatDoor
open Go Bx Go.Proofs.Tryz
set_option maxHeartbeats 1000000 in
theorem c_rsomeB {t : Sgt} {cs : List Value} {now : Int} {w0 : World} (h : RSgt w0 cs t) : CE Tryz.prog 94 #[.agg cs.toArray, .int .i64 now] w0 (fun u w' => ∃ v its, u = .tuple #[v, .int .i64 (smE t now)] ∧ (∀ w2 : World, (∀ it ∈ its, it.ok w2) → Sl w2 5 RBxs v ((boxR t now).1.map (toBxs t.frm))) ∧ St w0 w' [packI its]) := by
 obtain ⟨cv, gv, tv, fv, rfl, hT, hG, hw64, hf64, hk64, hC, hF, hl64, hm64, hr64, hq64⟩ := id h
 obtain ⟨ag, cg, rfl, hgcap, hgmx, hgel⟩ := id hG
 obtain ⟨ak, ck, rfl, hkcap, hkmx, hkel⟩ := id hC
 obtain ⟨ae, ce, rfl, hecap, hemx, heel⟩ := id hF
 refine enter func94 rfl ntmps94 rfl ?_
 have hS := St.start w0
 refine seq <| region ?_
 refine sbox hS rfl rfl ?_; clear hS; intro b2 w hS
 refine sv (yAsg rfl) <| sv (yAsg rfl) <| nil <| cwQ <| seq <| region <| sv (yLdBA rfl isAgg29 sizeOf29 (hS.at _) rfl rfl) <| sv (yMove rfl) ?_
 refine scall call21 (.cons rfl (.cons rfl .nil)) (c_rBoxes (h.ext hS.ext)) ?_
 rintro _ w ⟨bv, itsB, rfl, hs, hM⟩; replace hS := hS.call1 hM; clear hM
 obtain ⟨av, nv, cvv, rfl, hnl, hnm⟩ := sl_shape (hs w (hS.ok (packI itsB) (by simp)))
 rw [List.length_map] at hnl
 refine sv (yMove rfl) <| sv (yExt rfl rfl) <| sv (yExt rfl rfl) <| sv (yAsg rfl) <| sv (yAsg rfl) <| nil <| cwQ <| seq <| seq ?_
 refine region <| sv (yMove rfl) <| sv (yEql rfl rfl) <| sv (yMove rfl) ?_
 refine sg rfl rfl rfl (fun g => (yMove rfl)) (fun v17 g17 => ?_)
 refine sg rfl rfl rfl (fun g => (yLen (g17.1 g) underlying35)) (fun v18 g18 => ?_)
 refine sg rfl rfl rfl (fun g => (yEql (g18.1 g) rfl)) (fun v19 g19 => ?_)
 refine sv (yAnd rfl (fun hB => (g19.1 hB)) rfl) <| nil <| cwQ ?_
 refine cond rfl (fun c20 => ?_) (fun c20 => ?_)
 ·
  simp only [BS, ne_eq] at c20
  obtain ⟨ha0, hb0⟩ := c20
  have hsm : smE t now = 9 := sm_yes ha0 (by rw [boxR_1 (boxR_2.symm.trans ha0)] at hnl; omega)
  refine region <| sv (yAsg rfl) <| nil <| cwQ <| seq <| region <| sv (yMove rfl) <| sv (yMove rfl) <| sv (yAsg rfl) ?_
  refine sv (yAsg rfl) <| nil <| cwQ <| wp_ret <| retQ (res2 rfl rfl rfl) ?_
  rw [hsm]
  exact ⟨_, itsB, rfl, hs, hS.sub (.cons_cons _ (List.nil_sublist _))⟩
 ·
  simp only [BS, ne_eq] at c20
  have hsm : smE t now = (boxR t now).2 := sm_no (fun h1 h2 => by
   rw [boxR_1 (boxR_2.symm.trans h1)] at hnl
   rcases c20 with c20 | c20
   ·
    exact c20 h1
   ·
    exact c20 (by omega))
  refine skip <| cwQ <| seq <| region <| sv (yMove rfl) <| sv (yMove rfl) <| sv (yAsg rfl) <| sv (yAsg rfl) <| nil ?_
  refine cwQ <| wp_ret <| retQ (res2 rfl rfl rfl) ?_
  rw [hsm]
  exact ⟨_, itsB, rfl, hs, hS.sub (.cons_cons _ (List.nil_sublist _))⟩
set_option maxHeartbeats 1000000 in
theorem c_rtop {l : List Int} {v : Value} {w0 : World} (hl : Sl w0 1 RInt v l) (h0 : 0 < l.length) : CV Tryz.prog 97 #[v] w0 (.int .i64 (topL l)) := by
 obtain ⟨al, cl, rfl, hcap, hmx, -⟩ := id hl
 obtain ⟨b0, o0, c0, ha0, -, hc0, hR0, -⟩ := sl_at (i := 0) hl (show l[0]? = some (l.getD 0 0) by simp [List.getD, h0])
 obtain ⟨rfl, -⟩ := hR0
 refine enter func97 rfl ntmps97 rfl ?_
 have hS := St.start w0
 refine seq <| region <| sv (yAsg rfl) <| nil <| cwQ <| seq <| region <| sv (yMove rfl) <| sv (yIxa (m := 0) rfl ha0 rfl runUnderlying39 sizeOf3 (by decide) (by omega)) ?_
 refine sv (yLd rfl isAgg3 (hc0.ext hS.ext).one) <| sv (yAsg rfl) <| nil <| cwQ <| seq <| seq <| region <| sv (yAsg rfl) <| nil ?_
 refine cwQ <| block <| loop (fun f w zz => ∃ (k : Nat), f 0 = .slice al l.length cl ∧ f 3 = .int .i64 (topK l k) ∧ f 4 = .int .i64 (k : Int) ∧ StX [] w0 w [] ∧ (k ≤ l.length) ∧ zz = l.length - k) _ ⟨_, rfl, 0, rfl, rfl, rfl, hS, (Nat.zero_le _), rfl⟩ ?_
 clear hS
 rintro f w _ ⟨k, h0, h3, h4, hS, hk, rfl⟩
 refine seq <| seq <| region <| sv (yMove h4) <| sv (yMove h0) <| sv (yLen rfl underlying39) <| sv (yLss rfl rfl) <| nil <| cwQ ?_
 refine cond rfl (fun c11 => ?_) (fun c11 => ?_)
 ·
  simp only [BS, ne_eq] at c11
  have hkl : k < l.length := by omega
  obtain ⟨bk, ok, ck, hak, -, hck, hRk, -⟩ := sl_at hl (show l[k]? = some (l.getD k 0) by simp [List.getD, hkl])
  obtain ⟨rfl, -⟩ := hRk
  refine skip <| cwQ <| seq <| block <| region <| sv (yMove h3) <| sv (yMove h0) <| sv (yMove h4) <| sv (yIxQ rfl hak rfl runUnderlying39 sizeOf3) ?_
  refine sv (yLd rfl isAgg3 (hck.ext hS.ext).one) <| sv (yMax rfl rfl) <| sv (yAsg rfl) <| nil <| cwQ <| region <| sv (yMove h4) <| sv (yAdd rfl rfl ⟨by omega, by omega⟩) <| sv (yAsg rfl) ?_
  refine nil ?_
  exact ⟨_, _, rfl, ⟨k + 1, h0, (rfl.trans (congrArg (Value.int .i64) (topK_succ hkl).symm)), rfl, hS, (by omega), rfl⟩, by omega⟩
 ·
  simp only [BS, ne_eq] at c11
  obtain rfl : k = l.length := by omega
  refine exit <| cwQ <| seq <| region <| sv (yMove h3) <| sv (yAsg rfl) <| nil <| cwQ <| wp_ret ?_
  exact retV (res1 rfl rfl) hS.ext
set_option maxHeartbeats 4000000 in
theorem c_rEnvelope {t : Sgt} {cs : List Value} {now : Int} {w0 : World} (h : RSgt w0 cs t) : CE Tryz.prog 49 #[.agg cs.toArray, .int .i64 now] w0 (fun u w' => ∃ lv hv its, u = .tuple #[.agg #[.int .i64 (envR t now).1.frm, lv], .agg #[.int .i64 (envR t now).2.1.frm, hv], .int .i64 (envR t now).2.2] ∧ (∀ w2 : World, (∀ it ∈ its, it.ok w2) → Sl w2 1 RInt lv (envR t now).1.vals ∧ Sl w2 1 RInt hv (envR t now).2.1.vals) ∧ St w0 w' [packI its]) := by
 obtain ⟨cv, gv, tv, fv, rfl, hT, hG, hw64, hf64, hk64, hC, hF, hl64, hm64, hr64, hq64⟩ := id h
 obtain ⟨ag, cg, rfl, hgcap, hgmx, hgel⟩ := id hG
 obtain ⟨ak, ck, rfl, hkcap, hkmx, hkel⟩ := id hC
 obtain ⟨ae, ce, rfl, hecap, hemx, heel⟩ := id hF
 refine enter func49 rfl ntmps49 rfl ?_
 have hS := St.start w0
 refine seq <| region ?_
 refine sbox hS rfl rfl ?_; clear hS; intro b2 w hS
 refine salloc hS zeroValue41 rfl ?_; clear hS; intro b4 w hS
 refine salloc hS zeroValue41 rfl ?_; clear hS; intro b5 w hS
 refine sv (yAsg rfl) <| nil <| cwQ <| seq <| region <| sv (yLdBA rfl isAgg29 sizeOf29 (hS.at _) rfl rfl) <| sv (yMove rfl) ?_
 refine scall call94 (.cons rfl (.cons rfl .nil)) (c_rsomeB (h.ext hS.ext)) ?_
 rintro _ w ⟨bv, itsB, rfl, hs, hM⟩; replace hS := hS.call1 hM; clear hM
 obtain ⟨av, nv, cvv, rfl, hnl, hnm⟩ := sl_shape (hs w (hS.ok (packI itsB) (by simp)))
 rw [List.length_map] at hnl
 refine sv (yMove rfl) <| sv (yExt rfl rfl) <| sv (yExt rfl rfl) <| sv (yAsg rfl) <| sv (yAsg rfl) <| nil <| cwQ <| seq <| seq ?_
 refine region <| sv (yMove rfl) <| sv (yNeq rfl rfl) <| nil <| cwQ ?_
 refine cond rfl (fun c22 => ?_) (fun c22 => ?_)
 ·
  simp only [BS, ne_eq] at c22
  refine seq <| region <| sv (yBuild zeroValue41 rfl pl41 .nil rfl) <| sv (yBuild zeroValue41 rfl pl41 .nil rfl) <| sv (yMove rfl) ?_
  refine sst hS rfl rfl sizeOf41 rfl rfl rfl rfl ?_; clear hS; intro w hS
  refine sst hS rfl rfl sizeOf41 rfl rfl rfl rfl ?_; clear hS; intro w hS
  refine sv (yAsg rfl) <| nil <| cwQ ?_
  refine wp_ret (thenR ?_)
  refine retQ (resV3 rfl (rc rfl isAgg41 sizeOf41 (hS.at _) rfl rfl) (rc rfl isAgg41 sizeOf41 (hS.at _) rfl rfl) (rt rfl)) ?_
  have hf : envR t now = (⟨0, []⟩, ⟨0, []⟩, smE t now) := by unfold envR; rw [if_pos c22]
  rw [hf]
  exact ⟨_, _, [], rfl, fun _ _ => ⟨sl_none, sl_none⟩, its0 hS⟩
 ·
  simp only [BS, ne_eq] at c22
  obtain ⟨hask, hpos⟩ := smE_box c22
  obtain ⟨hok, hnow⟩ := askE_ok hask
  have htk := hok.tk
  rw [boxR_1 hask] at hs hnl
  obtain rfl : nv = (boxS t now).length := hnl
  have hbn : (boxS t now).length ≤ 625 := Nat.le_trans boxL_len (cho_bd hok)
  have hS0 := hS
  have hbx := hs w (hS.ok (packI itsB) (by simp))
  have hb2 := hS.at b2
  obtain ⟨w0, hwq⟩ : ∃ wq, wq = w := ⟨w, rfl⟩
  rw [← hwq] at hS0 hbx hb2
  replace hS : StX [] w0 w [] := by rw [hwq]; exact St.start w
  clear hwq
  obtain ⟨g0, o0, m0, al0, cl0, ah0, ch0, hg0, hc0, hl0, hh0, -, -⟩ := bxs_get hbx hpos
  have hn0 := high_len (boxAt_mem hpos)
  refine skip <| cwQ ?_
  refine seqJ (n := 96) (fun f w => ∃ (b9 b10 : Nat), f 1 = .int .i64 now ∧ f 2 = ptQ b2 ∧ f 4 = ptQ b4 ∧ f 5 = ptQ b5 ∧ f 7 = .slice av (boxS t now).length cvv ∧ f 9 = ptQ b9 ∧ f 10 = ptQ b10 ∧ StX [] w0 w [blk b10 [.int .i64 t.frm, .slice none 0 0] 41, blk b9 [.int .i64 t.frm, .slice none 0 0] 41] ∧ True) ?_ ?_
  ·
   refine region_m (fun w => Ext w0 w) (fun _ => True) [] [] mixed (fun c a a' w h => by obtain ⟨_, v, hv, _⟩ := h; cases hv) hS ?_; clear hS; intro w hS
   refine mq 0 0 [] (by kernel_rfl) rfl trivial (fun w hS => (fa29_3 rfl)) <| mq 1 1 [] (by kernel_rfl) rfl hS.ext (fun w hS => (yLdB rfl isAgg3 (hS.get hb2) rfl)) <| mq 0 2 [] (by kernel_rfl) rfl trivial (fun w hS => (yBuild zeroValue41 rfl pl41 (.cons rfl rfl .nil) rfl)) <| mq 0 3 [] (by kernel_rfl) rfl trivial (fun w hS => (fa29_3 rfl)) <| mq 1 4 [] (by kernel_rfl) rfl hS.ext (fun w hS => (yLdB rfl isAgg3 (hS.get hb2) rfl)) <| mq 0 5 [] (by kernel_rfl) rfl trivial (fun w hS => (yBuild zeroValue41 rfl pl41 (.cons rfl rfl .nil) rfl)) ?_
   refine ms (i := 6) (is := [7]) (by kernel_rfl) ⟨⟨_, rfl, ?_⟩, ⟨_, rfl, ?_⟩, trivial⟩
   ·
    refine salloc hS zeroValue41 rfl ?_; clear hS; intro b9 w hS
    refine nil ⟨⟨fun _ _ => hS.ext, fun _ _ => trivial⟩, mw ?_⟩
    refine m1 7 (by kernel_rfl) rfl ?_
    refine salloc hS zeroValue41 rfl ?_; clear hS; intro b10 w hS
    refine nil ⟨⟨fun _ _ => hS.ext, fun _ _ => trivial⟩, mw ?_⟩
    refine m1 8 (by kernel_rfl) rfl ?_
    refine sst hS rfl rfl sizeOf41 rfl rfl rfl rfl ?_; clear hS; intro w hS
    refine nil ⟨⟨fun _ _ => hS.ext, fun _ _ => trivial⟩, mw ?_⟩
    refine m1 9 (by kernel_rfl) rfl ?_
    refine sst hS rfl rfl sizeOf41 rfl rfl rfl rfl ?_; clear hS; intro w hS
    refine nil ⟨⟨fun _ _ => hS.ext, fun _ _ => trivial⟩, mw ?_⟩
    refine me (by kernel_rfl) ?_
    exact ⟨_, rfl, b9, b10, rfl, rfl, rfl, rfl, rfl, rfl, rfl, (by first | exact hS | exact hS.perm (.swap _ _ _)), trivial⟩
   ·
    refine salloc hS zeroValue41 rfl ?_; clear hS; intro b10 w hS
    refine nil ⟨⟨fun _ _ => hS.ext, fun _ _ => trivial⟩, mw ?_⟩
    refine m1 6 (by kernel_rfl) rfl ?_
    refine salloc hS zeroValue41 rfl ?_; clear hS; intro b9 w hS
    refine nil ⟨⟨fun _ _ => hS.ext, fun _ _ => trivial⟩, mw ?_⟩
    refine m1 8 (by kernel_rfl) rfl ?_
    refine sst hS rfl rfl sizeOf41 rfl rfl rfl rfl ?_; clear hS; intro w hS
    refine nil ⟨⟨fun _ _ => hS.ext, fun _ _ => trivial⟩, mw ?_⟩
    refine m1 9 (by kernel_rfl) rfl ?_
    refine sst hS rfl rfl sizeOf41 rfl rfl rfl rfl ?_; clear hS; intro w hS
    refine nil ⟨⟨fun _ _ => hS.ext, fun _ _ => trivial⟩, mw ?_⟩
    refine me (by kernel_rfl) ?_
    exact ⟨_, rfl, b9, b10, rfl, rfl, rfl, rfl, rfl, rfl, rfl, (by first | exact hS | exact hS.perm (.swap _ _ _)), trivial⟩
  ·
   clear hS; rintro f w ⟨b9, b10, h1, h2, h4, h5, h7, h9, h10, hS, -⟩
   refine seq <| seq <| region <| sv (yAsg rfl) <| nil <| cwQ <| block <| loop (fun f w zz => ∃ (i : Nat) (lv hv : Value), f 1 = .int .i64 now ∧ f 2 = ptQ b2 ∧ f 4 = ptQ b4 ∧ f 5 = ptQ b5 ∧ f 7 = .slice av (boxS t now).length cvv ∧ f 9 = ptQ b9 ∧ f 10 = ptQ b10 ∧ f 11 = .int .i64 (i : Int) ∧ StX [] w0 w [rowI lv 3 1 (i) ((eLo t now i).flatMap Bx.encI), rowI hv 3 1 (i) ((eHi t now i).flatMap Bx.encI), blk b10 [.int .i64 t.frm, hv] 41, blk b9 [.int .i64 t.frm, lv] 41] ∧ (i ≤ t.ticks.toNat) ∧ zz = t.ticks.toNat - i) _ ⟨_, rfl, 0, _, _, h1, h2, h4, h5, h7, h9, h10, rfl, ((hS.nilrow 3 1).nilrow 3 1), (Nat.zero_le _), rfl⟩ ?_
   clear hS
   rintro f w _ ⟨i, lv, hv, h1, h2, h4, h5, h7, h9, h10, h11, hS, hi, rfl⟩
   refine seq <| seq <| region <| sv (yMove h11) <| sv (fa29_4 h2) <| sv (yLdB rfl isAgg3 (hS.ext.get hb2) rfl) <| sv (yLss rfl rfl) <| nil <| cwQ ?_
   refine cond rfl (fun c35 => ?_) (fun c35 => ?_)
   ·
    simp only [BS, ne_eq] at c35
    have hil : i < t.ticks.toNat := by omega
    obtain ⟨bp, op, cp, hap, -, hcp, hRp, -⟩ := sl_at hl0 (show (lowB (boxAt (boxS t now) 0))[i]? = some ((lowB (boxAt (boxS t now) 0)).getD i 0) by simp [List.getD, show i < (lowB (boxAt (boxS t now) 0)).length by omega])
    obtain ⟨rfl, -⟩ := hRp
    obtain ⟨bq, oq, cq, haq, -, hcq, hRq, -⟩ := sl_at hh0 (show (highB (boxAt (boxS t now) 0))[i]? = some ((highB (boxAt (boxS t now) 0)).getD i 0) by simp [List.getD, show i < (highB (boxAt (boxS t now) 0)).length by omega])
    obtain ⟨rfl, -⟩ := hRq
    refine skip <| cwQ <| seq <| block <| seq ?_
    refine region_m (fun w => Ext w0 w) (fun _ => True) [] [] mixed (fun c a a' w h => by obtain ⟨_, v, hv, _⟩ := h; cases hv) hS ?_; clear hS; intro w hS
    refine mq 0 0 [] (by kernel_rfl) rfl trivial (fun w hS => (yMove h7)) <| mq 0 1 [] (by kernel_rfl) rfl trivial (fun w hS => (yIxa (m := 0) rfl hg0 rfl runUnderlying35 sizeOf43 (by decide) (by omega))) <| mq 0 2 [] (by kernel_rfl) rfl trivial (fun w hS => (fa43_1 rfl)) <| mq 0 3 [] (by kernel_rfl) rfl trivial (fun w hS => (fa41_1 rfl)) <| mq 1 4 [] (by kernel_rfl) rfl hS.ext (fun w hS => (yLd rfl isAgg39 ((hc0.ext hS).at (j := 2) rfl))) <| mq 0 5 [] (by kernel_rfl) rfl trivial (fun w hS => (yMove h11)) <| mq 0 6 [] (by kernel_rfl) rfl trivial (fun w hS => (yIxQ rfl hap rfl runUnderlying39 sizeOf3)) <| mq 1 7 [] (by kernel_rfl) rfl hS.ext (fun w hS => (yLd rfl isAgg3 (hcp.ext hS).one)) <| mq 0 8 [] (by kernel_rfl) rfl trivial (fun w hS => (yMove h7)) ?_
    refine mq 0 9 [] (by kernel_rfl) rfl trivial (fun w hS => (yIxa (m := 0) rfl hg0 rfl runUnderlying35 sizeOf43 (by decide) (by omega))) <| mq 0 10 [] (by kernel_rfl) rfl trivial (fun w hS => (fa43_2 rfl)) <| mq 0 11 [] (by kernel_rfl) rfl trivial (fun w hS => (fa41_1 rfl)) <| mq 1 12 [] (by kernel_rfl) rfl hS.ext (fun w hS => (yLd rfl isAgg39 ((hc0.ext hS).at (j := 4) rfl))) <| mq 0 13 [] (by kernel_rfl) rfl trivial (fun w hS => (yMove h11)) <| mq 0 14 [] (by kernel_rfl) rfl trivial (fun w hS => (yIxQ rfl haq rfl runUnderlying39 sizeOf3)) <| mq 1 15 [] (by kernel_rfl) rfl hS.ext (fun w hS => (yLd rfl isAgg3 (hcq.ext hS).one)) <| mq 0 16 [] (by kernel_rfl) rfl trivial (fun w hS => (yAsg rfl)) <| mq 0 17 [] (by kernel_rfl) rfl trivial (fun w hS => (yAsg rfl)) ?_
    refine me (by kernel_rfl) <| cwQ <| seq <| seq <| region <| sv (yAsg rfl) <| nil <| cwQ <| block ?_
    refine loop (fun f w zz => ∃ (k : Nat), f 1 = .int .i64 now ∧ f 2 = ptQ b2 ∧ f 4 = ptQ b4 ∧ f 5 = ptQ b5 ∧ f 7 = .slice av (boxS t now).length cvv ∧ f 9 = ptQ b9 ∧ f 10 = ptQ b10 ∧ f 11 = .int .i64 (i : Int) ∧ f 12 = .int .i64 (envLo t now i k) ∧ f 13 = .int .i64 (envHi t now i k) ∧ f 14 = .int .i64 (k : Int) ∧ StX [] w0 w [rowI lv 3 1 (i) ((eLo t now i).flatMap Bx.encI), rowI hv 3 1 (i) ((eHi t now i).flatMap Bx.encI), blk b10 [.int .i64 t.frm, hv] 41, blk b9 [.int .i64 t.frm, lv] 41] ∧ (k ≤ (boxS t now).length) ∧ zz = (boxS t now).length - k) _ ⟨_, rfl, 0, h1, h2, h4, h5, h7, h9, h10, h11, rfl, rfl, rfl, hS, (Nat.zero_le _), rfl⟩ ?_
    clear hS
    rintro f w _ ⟨k, h1, h2, h4, h5, h7, h9, h10, h11, h12, h13, h14, hS, hk, rfl⟩
    refine seq <| seq <| region <| sv (yMove h14) <| sv (yMove h7) <| sv (yLen rfl underlying35) <| sv (yLss rfl rfl) <| nil <| cwQ ?_
    refine cond rfl (fun c57 => ?_) (fun c57 => ?_)
    ·
     simp only [BS, ne_eq] at c57
     have hkl : k < (boxS t now).length := by omega
     obtain ⟨gk, ok, mk, alk, clk, ahk, chk, hgk, hck, hlk, hhk, -, -⟩ := bxs_get hbx hkl
     have hnk := high_len (boxAt_mem hkl)
     obtain ⟨bu, ou, cu, hau, -, hcu, hRu, -⟩ := sl_at hlk (show (lowB (boxAt (boxS t now) k))[i]? = some ((lowB (boxAt (boxS t now) k)).getD i 0) by simp [List.getD, show i < (lowB (boxAt (boxS t now) k)).length by omega])
     obtain ⟨rfl, -⟩ := hRu
     obtain ⟨bv, ov, cv, hav, -, hcv, hRv, -⟩ := sl_at hhk (show (highB (boxAt (boxS t now) k))[i]? = some ((highB (boxAt (boxS t now) k)).getD i 0) by simp [List.getD, show i < (highB (boxAt (boxS t now) k)).length by omega])
     obtain ⟨rfl, -⟩ := hRv
     refine skip <| cwQ <| seq <| block ?_
     refine region_m (fun w => Ext w0 w) (fun _ => True) [] [] mixed (fun c a a' w h => by obtain ⟨_, v, hv, _⟩ := h; cases hv) hS ?_; clear hS; intro w hS
     refine mq 0 0 [] (by kernel_rfl) rfl trivial (fun w hS => (yMove h12)) <| mq 0 1 [] (by kernel_rfl) rfl trivial (fun w hS => (yMove h7)) <| mq 0 2 [] (by kernel_rfl) rfl trivial (fun w hS => (yMove h14)) <| mq 0 3 [] (by kernel_rfl) rfl trivial (fun w hS => (yIxQ rfl hgk rfl runUnderlying35 sizeOf43)) <| mq 0 4 [] (by kernel_rfl) rfl trivial (fun w hS => (fa43_1 rfl)) <| mq 0 5 [] (by kernel_rfl) rfl trivial (fun w hS => (fa41_1 rfl)) <| mq 1 6 [] (by kernel_rfl) rfl hS.ext (fun w hS => (yLd rfl isAgg39 ((hck.ext hS).at (j := 2) rfl))) <| mq 0 7 [] (by kernel_rfl) rfl trivial (fun w hS => (yMove h11)) <| mq 0 8 [] (by kernel_rfl) rfl trivial (fun w hS => (yIxQ rfl hau rfl runUnderlying39 sizeOf3)) ?_
     refine mq 1 9 [] (by kernel_rfl) rfl hS.ext (fun w hS => (yLd rfl isAgg3 (hcu.ext hS).one)) <| mq 0 10 [] (by kernel_rfl) rfl trivial (fun w hS => (yMin rfl rfl)) <| mq 0 11 [] (by kernel_rfl) rfl trivial (fun w hS => (yMove h13)) <| mq 0 12 [] (by kernel_rfl) rfl trivial (fun w hS => (yMove h7)) <| mq 0 13 [] (by kernel_rfl) rfl trivial (fun w hS => (yMove h14)) <| mq 0 14 [] (by kernel_rfl) rfl trivial (fun w hS => (yIxQ rfl hgk rfl runUnderlying35 sizeOf43)) <| mq 0 15 [] (by kernel_rfl) rfl trivial (fun w hS => (fa43_2 rfl)) <| mq 0 16 [] (by kernel_rfl) rfl trivial (fun w hS => (fa41_1 rfl)) <| mq 1 17 [] (by kernel_rfl) rfl hS.ext (fun w hS => (yLd rfl isAgg39 ((hck.ext hS).at (j := 4) rfl))) ?_
     refine mq 0 18 [] (by kernel_rfl) rfl trivial (fun w hS => (yMove h11)) <| mq 0 19 [] (by kernel_rfl) rfl trivial (fun w hS => (yIxQ rfl hav rfl runUnderlying39 sizeOf3)) <| mq 1 20 [] (by kernel_rfl) rfl hS.ext (fun w hS => (yLd rfl isAgg3 (hcv.ext hS).one)) <| mq 0 21 [] (by kernel_rfl) rfl trivial (fun w hS => (yMax rfl rfl)) <| mq 0 22 [] (by kernel_rfl) rfl trivial (fun w hS => (yAsg rfl)) <| mq 0 23 [] (by kernel_rfl) rfl trivial (fun w hS => (yAsg rfl)) <| me (by kernel_rfl) <| cwQ <| region ?_
     refine sv (yMove h14) <| sv (yAdd rfl rfl ⟨by omega, by omega⟩) <| sv (yAsg rfl) <| nil ?_
     exact ⟨_, _, rfl, ⟨k + 1, h1, h2, h4, h5, h7, h9, h10, h11, (rfl.trans (congrArg (Value.int .i64) (envLo_succ i k).symm)), (rfl.trans (congrArg (Value.int .i64) (envHi_succ i k).symm)), rfl, hS, (by omega), rfl⟩, by omega⟩
    ·
     simp only [BS, ne_eq] at c57
     obtain rfl : k = (boxS t now).length := by omega
     refine exit <| cwQ ?_
     refine region_m (fun w => w.heap[b9]? = some (.cells ([.int .i64 t.frm, lv] : List Value).toArray 41 (0, 0))) (fun w => w.heap[b10]? = some (.cells ([.int .i64 t.frm, hv] : List Value).toArray 41 (0, 0))) [11] [13] mixed (fun c a a' w h => by obtain ⟨_, v, hv, _⟩ := h; cases hv) hS ?_; clear hS; intro w hS
     refine mq 0 0 [] (by kernel_rfl) rfl trivial (fun w hS => (fa41_1 h9)) <| mq 1 1 [4, 9, 10, 11] (by kernel_rfl) rfl (hS.at b9) (fun w hS => (yLdB rfl isAgg39 hS rfl)) <| mq 0 2 [] (by kernel_rfl) rfl trivial (fun w hS => (yMove h12)) <| mq 0 5 [] (by kernel_rfl) rfl trivial (fun w hS => (fa41_1 h10)) <| mq 2 6 [9, 11, 12, 13] (by kernel_rfl) rfl (hS.at b10) (fun w hS => (yLdB rfl isAgg39 hS rfl)) <| mq 0 7 [] (by kernel_rfl) rfl trivial (fun w hS => (yMove h13)) ?_
     refine ms (i := 3) (is := [8]) (by kernel_rfl) ⟨⟨_, rfl, ?_⟩, ⟨_, rfl, ?_⟩, trivial⟩
     ·
      refine sbslice hS underlying39 sizeOf3 rfl zeroValue3 rfl (.cons rfl rfl .nil) rfl ?_; clear hS; intro b85 w hS
      refine nil ⟨⟨fun _ _ => (hS.at b9), fun _ _ => (hS.at b10)⟩, mw ?_⟩
      refine ms (i := 4) (is := [8]) (by kernel_rfl) ⟨⟨_, rfl, ?_⟩, ⟨_, rfl, ?_⟩, trivial⟩
      ·
       refine sapp (bytes := 8) (size := 1) (v := lv) (m := 1) hS rfl rfl underlying39 ti3 rfl rfl rfl rfl (by decide) (blk_cells (hS.at _)) rfl rfl (by omega) (by omega) ?_; clear hS; intro v86 w hS
       refine nil ⟨⟨fun _ _ => (hS.at b9), fun _ _ => (hS.at b10)⟩, mw ?_⟩
       refine mq 0 10 [] (by kernel_rfl) rfl trivial (fun w hS => (fa41_1 h9)) <| m1 8 (by kernel_rfl) rfl ?_
       refine sbslice hS underlying39 sizeOf3 rfl zeroValue3 rfl (.cons rfl rfl .nil) rfl ?_; clear hS; intro b90 w hS
       refine nil ⟨⟨fun _ _ => (hS.at b9), fun _ _ => (hS.at b10)⟩, mw ?_⟩
       refine m1 9 (by kernel_rfl) rfl ?_
       refine sapp (bytes := 8) (size := 1) (v := hv) (m := 1) hS rfl rfl underlying39 ti3 rfl rfl rfl rfl (by decide) (blk_cells (hS.at _)) rfl rfl (by omega) (by omega) ?_; clear hS; intro v91 w hS
       refine nil ⟨⟨fun _ _ => (hS.at b9), fun _ _ => (hS.at b10)⟩, mw ?_⟩
       refine m1 11 (by kernel_rfl) rfl ?_
       obtain ⟨a86, c86, rfl⟩ := row_shape (hS.row v86)
       refine sst hS rfl rfl sizeOf39 rfl rfl rfl rfl ?_; clear hS; intro w hS
       refine nil ⟨⟨fun h => absurd h (by decide), fun _ _ => (hS.at b10)⟩, mw ?_⟩
       refine mq 0 12 [] (by kernel_rfl) rfl trivial (fun w hS => (fa41_1 h10)) <| m1 13 (by kernel_rfl) rfl ?_
       have hS0 := hS
       obtain ⟨a91, c91, rfl⟩ := row_shape (hS.row v91)
       refine sst hS rfl rfl sizeOf39 rfl rfl rfl rfl ?_; clear hS; intro w hS
       refine nil ⟨⟨fun _ h => ((hS.at b9).trans ((hS0.at b9).symm.trans h)), fun h => absurd h (by decide)⟩, mw ?_⟩
       refine me (by kernel_rfl) <| cwQ <| region <| sv (yMove h11) <| sv (yAdd rfl rfl ⟨by omega, by omega⟩) <| sv (yAsg rfl) <| nil ?_
       exact ⟨_, _, rfl, ⟨i + 1, _, _, h1, h2, h4, h5, h7, h9, h10, rfl, (by rw [eLo_succ, eHi_succ, List.flatMap_append, List.flatMap_append]; exact sbQ hS), (by omega), rfl⟩, by omega⟩
      ·
       refine sbslice hS underlying39 sizeOf3 rfl zeroValue3 rfl (.cons rfl rfl .nil) rfl ?_; clear hS; intro b90 w hS
       refine nil ⟨⟨fun _ _ => (hS.at b9), fun _ _ => (hS.at b10)⟩, mw ?_⟩
       refine m1 4 (by kernel_rfl) rfl ?_
       refine sapp (bytes := 8) (size := 1) (v := lv) (m := 1) hS rfl rfl underlying39 ti3 rfl rfl rfl rfl (by decide) (blk_cells (hS.at _)) rfl rfl (by omega) (by omega) ?_; clear hS; intro v86 w hS
       refine nil ⟨⟨fun _ _ => (hS.at b9), fun _ _ => (hS.at b10)⟩, mw ?_⟩
       refine mq 0 10 [] (by kernel_rfl) rfl trivial (fun w hS => (fa41_1 h9)) <| m1 9 (by kernel_rfl) rfl ?_
       refine sapp (bytes := 8) (size := 1) (v := hv) (m := 1) hS rfl rfl underlying39 ti3 rfl rfl rfl rfl (by decide) (blk_cells (hS.at _)) rfl rfl (by omega) (by omega) ?_; clear hS; intro v91 w hS
       refine nil ⟨⟨fun _ _ => (hS.at b9), fun _ _ => (hS.at b10)⟩, mw ?_⟩
       refine m1 11 (by kernel_rfl) rfl ?_
       obtain ⟨a86, c86, rfl⟩ := row_shape (hS.row v86)
       refine sst hS rfl rfl sizeOf39 rfl rfl rfl rfl ?_; clear hS; intro w hS
       refine nil ⟨⟨fun h => absurd h (by decide), fun _ _ => (hS.at b10)⟩, mw ?_⟩
       refine mq 0 12 [] (by kernel_rfl) rfl trivial (fun w hS => (fa41_1 h10)) <| m1 13 (by kernel_rfl) rfl ?_
       have hS0 := hS
       obtain ⟨a91, c91, rfl⟩ := row_shape (hS.row v91)
       refine sst hS rfl rfl sizeOf39 rfl rfl rfl rfl ?_; clear hS; intro w hS
       refine nil ⟨⟨fun _ h => ((hS.at b9).trans ((hS0.at b9).symm.trans h)), fun h => absurd h (by decide)⟩, mw ?_⟩
       refine me (by kernel_rfl) <| cwQ <| region <| sv (yMove h11) <| sv (yAdd rfl rfl ⟨by omega, by omega⟩) <| sv (yAsg rfl) <| nil ?_
       exact ⟨_, _, rfl, ⟨i + 1, _, _, h1, h2, h4, h5, h7, h9, h10, rfl, (by rw [eLo_succ, eHi_succ, List.flatMap_append, List.flatMap_append]; exact sbQ hS), (by omega), rfl⟩, by omega⟩
     ·
      refine sbslice hS underlying39 sizeOf3 rfl zeroValue3 rfl (.cons rfl rfl .nil) rfl ?_; clear hS; intro b90 w hS
      refine nil ⟨⟨fun _ _ => (hS.at b9), fun _ _ => (hS.at b10)⟩, mw ?_⟩
      refine m1 3 (by kernel_rfl) rfl ?_
      refine sbslice hS underlying39 sizeOf3 rfl zeroValue3 rfl (.cons rfl rfl .nil) rfl ?_; clear hS; intro b85 w hS
      refine nil ⟨⟨fun _ _ => (hS.at b9), fun _ _ => (hS.at b10)⟩, mw ?_⟩
      refine m1 4 (by kernel_rfl) rfl ?_
      refine sapp (bytes := 8) (size := 1) (v := lv) (m := 1) hS rfl rfl underlying39 ti3 rfl rfl rfl rfl (by decide) (blk_cells (hS.at _)) rfl rfl (by omega) (by omega) ?_; clear hS; intro v86 w hS
      refine nil ⟨⟨fun _ _ => (hS.at b9), fun _ _ => (hS.at b10)⟩, mw ?_⟩
      refine mq 0 10 [] (by kernel_rfl) rfl trivial (fun w hS => (fa41_1 h9)) <| m1 9 (by kernel_rfl) rfl ?_
      refine sapp (bytes := 8) (size := 1) (v := hv) (m := 1) hS rfl rfl underlying39 ti3 rfl rfl rfl rfl (by decide) (blk_cells (hS.at _)) rfl rfl (by omega) (by omega) ?_; clear hS; intro v91 w hS
      refine nil ⟨⟨fun _ _ => (hS.at b9), fun _ _ => (hS.at b10)⟩, mw ?_⟩
      refine m1 11 (by kernel_rfl) rfl ?_
      obtain ⟨a86, c86, rfl⟩ := row_shape (hS.row v86)
      refine sst hS rfl rfl sizeOf39 rfl rfl rfl rfl ?_; clear hS; intro w hS
      refine nil ⟨⟨fun h => absurd h (by decide), fun _ _ => (hS.at b10)⟩, mw ?_⟩
      refine mq 0 12 [] (by kernel_rfl) rfl trivial (fun w hS => (fa41_1 h10)) <| m1 13 (by kernel_rfl) rfl ?_
      have hS0 := hS
      obtain ⟨a91, c91, rfl⟩ := row_shape (hS.row v91)
      refine sst hS rfl rfl sizeOf39 rfl rfl rfl rfl ?_; clear hS; intro w hS
      refine nil ⟨⟨fun _ h => ((hS.at b9).trans ((hS0.at b9).symm.trans h)), fun h => absurd h (by decide)⟩, mw ?_⟩
      refine me (by kernel_rfl) <| cwQ <| region <| sv (yMove h11) <| sv (yAdd rfl rfl ⟨by omega, by omega⟩) <| sv (yAsg rfl) <| nil ?_
      exact ⟨_, _, rfl, ⟨i + 1, _, _, h1, h2, h4, h5, h7, h9, h10, rfl, (by rw [eLo_succ, eHi_succ, List.flatMap_append, List.flatMap_append]; exact sbQ hS), (by omega), rfl⟩, by omega⟩
   ·
    simp only [BS, ne_eq] at c35
    obtain rfl : i = t.ticks.toNat := by omega
    obtain ⟨alv, clv, rfl⟩ := row_shape (hS.row lv)
    obtain ⟨ahv, chv, rfl⟩ := row_shape (hS.row hv)
    replace hS := hS0.call hS
    simp only [List.cons_append, List.nil_append] at hS
    refine exit <| cwQ <| seq ?_
    refine region_m (fun w => w.heap[b9]? = some (.cells ([.int .i64 t.frm, .slice alv t.ticks.toNat clv] : List Value).toArray 41 (0, 0))) (fun w => w.heap[b10]? = some (.cells ([.int .i64 t.frm, .slice ahv t.ticks.toNat chv] : List Value).toArray 41 (0, 0))) [] [] mixed (fun c a a' w h => by obtain ⟨_, v, hv, _⟩ := h; cases hv) hS ?_; clear hS; intro w hS
    refine mq 1 0 [] (by kernel_rfl) rfl (hS.at b9) (fun w hS => (yLdBA h9 isAgg41 sizeOf41 hS rfl rfl)) <| mq 2 1 [] (by kernel_rfl) rfl (hS.at b10) (fun w hS => (yLdBA h10 isAgg41 sizeOf41 hS rfl rfl)) <| m1 2 (by kernel_rfl) rfl ?_
    refine sst hS h4 rfl sizeOf41 rfl rfl rfl rfl ?_; clear hS; intro w hS
    refine nil ⟨⟨fun _ _ => (hS.at b9), fun _ _ => (hS.at b10)⟩, mw ?_⟩
    refine m1 3 (by kernel_rfl) rfl ?_
    refine sst hS h5 rfl sizeOf41 rfl rfl rfl rfl ?_; clear hS; intro w hS
    refine nil ⟨⟨fun _ _ => (hS.at b9), fun _ _ => (hS.at b10)⟩, mw ?_⟩
    refine mq 0 4 [] (by kernel_rfl) rfl trivial (fun w hS => (yAsg rfl)) <| me (by kernel_rfl) <| cwQ <| wp_ret <| retQ (resV3 rfl (rc h4 isAgg41 sizeOf41 (hS.at _) rfl rfl) (rc h5 isAgg41 sizeOf41 (hS.at _) rfl rfl) (rt rfl)) ?_
    rw [env_ok c22]
    exact ⟨_, _, [rowI (.slice alv t.ticks.toNat clv) 3 1 (t.ticks.toNat) ((eLo t now t.ticks.toNat).flatMap Bx.encI), rowI (.slice ahv t.ticks.toNat chv) 3 1 (t.ticks.toNat) ((eHi t now t.ticks.toNat).flatMap Bx.encI)], rfl, fun w2 hi => ⟨sl_ints (hi (rowI (.slice alv t.ticks.toNat clv) 3 1 (t.ticks.toNat) ((eLo t now t.ticks.toNat).flatMap Bx.encI)) (by simp)) eLo_len (eLo_i64 hok), sl_ints (hi (rowI (.slice ahv t.ticks.toNat chv) 3 1 (t.ticks.toNat) ((eHi t now t.ticks.toNat).flatMap Bx.encI)) (by simp)) eHi_len (eHi_i64 hok)⟩, StX.pack (M := [_, _]) (hS.sub (.cons_cons _ (.cons_cons _ (List.nil_sublist _))))⟩
set_option maxHeartbeats 4000000 in
theorem c_rPeak {t : Sgt} {cs : List Value} {now : Int} {w0 : World} (h : RSgt w0 cs t) : CV Tryz.prog 51 #[.agg cs.toArray, .int .i64 now] w0 (.tuple #[.agg (spanC (peakR t now).1).toArray, .int .i64 (peakR t now).2]) := by
 obtain ⟨cv, gv, tv, fv, rfl, hT, hG, hw64, hf64, hk64, hC, hF, hl64, hm64, hr64, hq64⟩ := id h
 obtain ⟨ag, cg, rfl, hgcap, hgmx, hgel⟩ := id hG
 obtain ⟨ak, ck, rfl, hkcap, hkmx, hkel⟩ := id hC
 obtain ⟨ae, ce, rfl, hecap, hemx, heel⟩ := id hF
 refine enter func51 rfl ntmps51 rfl ?_
 have hS := St.start w0
 refine seq <| region ?_
 refine sbox hS rfl rfl ?_; clear hS; intro b2 w hS
 refine salloc hS zeroValue74 rfl ?_; clear hS; intro b4 w hS
 refine sv (yAsg rfl) <| nil <| cwQ <| seq <| region <| sv (yLdBA rfl isAgg29 sizeOf29 (hS.at _) rfl rfl) <| sv (yMove rfl) ?_
 refine scall call94 (.cons rfl (.cons rfl .nil)) (c_rsomeB (h.ext hS.ext)) ?_
 rintro _ w ⟨bv, itsB, rfl, hs, hM⟩; replace hS := hS.call1 hM; clear hM
 obtain ⟨av, nv, cvv, rfl, hnl, hnm⟩ := sl_shape (hs w (hS.ok (packI itsB) (by simp)))
 rw [List.length_map] at hnl
 refine sv (yMove rfl) <| sv (yExt rfl rfl) <| sv (yExt rfl rfl) <| sv (yAsg rfl) <| sv (yAsg rfl) <| nil <| cwQ <| seq <| seq ?_
 refine region <| sv (yMove rfl) <| sv (yNeq rfl rfl) <| nil <| cwQ ?_
 refine cond rfl (fun c17 => ?_) (fun c17 => ?_)
 ·
  simp only [BS, ne_eq] at c17
  refine seq <| region <| sv (yBuild zeroValue74 rfl pl74 .nil rfl) <| sv (yMove rfl) ?_
  refine sst hS rfl rfl sizeOf74 rfl rfl rfl rfl ?_; clear hS; intro w hS
  refine sv (yAsg rfl) <| nil <| cwQ ?_
  refine wp_ret (thenR ?_)
  refine retQ (resV2 rfl (rc rfl isAgg74 sizeOf74 (hS.at _) rfl rfl) (rt rfl)) ?_
  have hf : peakR t now = (⟨0, 0⟩, smE t now) := by unfold peakR; rw [if_pos c17]
  rw [hf]
  exact ⟨rfl, hS.ext⟩
 ·
  simp only [BS, ne_eq] at c17
  obtain ⟨hask, hpos⟩ := smE_box c17
  obtain ⟨hok, hnow⟩ := askE_ok hask
  have htk := hok.tk
  rw [boxR_1 hask] at hs hnl
  obtain rfl : nv = (boxS t now).length := hnl
  have hbn : (boxS t now).length ≤ 625 := Nat.le_trans boxL_len (cho_bd hok)
  have hS0 := hS
  have hbx := hs w (hS.ok (packI itsB) (by simp))
  have hb2 := hS.at b2
  obtain ⟨w0, hwq⟩ : ∃ wq, wq = w := ⟨w, rfl⟩
  rw [← hwq] at hS0 hbx hb2
  replace hS : StX [] w0 w [] := by rw [hwq]; exact St.start w
  clear hwq
  obtain ⟨g0, o0, m0, al0, cl0, ah0, ch0, hg0, hc0, hl0, hh0, -, -⟩ := bxs_get hbx hpos
  have hn0 := high_len (boxAt_mem hpos)
  refine skip <| cwQ ?_
  refine seqJ (n := 61) (fun f w => ∃ (b8 : Nat), f 1 = .int .i64 now ∧ f 2 = ptQ b2 ∧ f 4 = ptQ b4 ∧ f 6 = .slice av (boxS t now).length cvv ∧ f 8 = ptQ b8 ∧ StX [] w0 w [blk b8 (spanC ⟨peakLo t now 0, peakHi t now 0⟩) 74] ∧ True) ?_ ?_
  ·
   refine region_m (fun w => Ext w0 w) (fun _ => True) [] [] mixed (fun c a a' w h => by obtain ⟨_, v, hv, _⟩ := h; cases hv) hS ?_; clear hS; intro w hS
   refine mq 0 0 [] (by kernel_rfl) rfl trivial (fun w hS => (yMove rfl)) <| mq 0 1 [] (by kernel_rfl) rfl trivial (fun w hS => (yIxa (m := 0) rfl hg0 rfl runUnderlying35 sizeOf43 (by decide) (by omega))) <| mq 0 2 [] (by kernel_rfl) rfl trivial (fun w hS => (fa43_1 rfl)) <| mq 0 3 [] (by kernel_rfl) rfl trivial (fun w hS => (fa41_1 rfl)) <| mq 1 4 [] (by kernel_rfl) rfl hS.ext (fun w hS => (yLd rfl isAgg39 ((hc0.ext hS).at (j := 2) rfl))) <| mq 0 6 [] (by kernel_rfl) rfl trivial (fun w hS => (yMove rfl)) <| mq 0 7 [] (by kernel_rfl) rfl trivial (fun w hS => (yIxa (m := 0) rfl hg0 rfl runUnderlying35 sizeOf43 (by decide) (by omega))) <| mq 0 8 [] (by kernel_rfl) rfl trivial (fun w hS => (fa43_2 rfl)) <| mq 0 9 [] (by kernel_rfl) rfl trivial (fun w hS => (fa41_1 rfl)) ?_
   refine mq 1 10 [] (by kernel_rfl) rfl hS.ext (fun w hS => (yLd rfl isAgg39 ((hc0.ext hS).at (j := 4) rfl))) ?_
   refine ms (i := 5) (is := [13]) (by kernel_rfl) ⟨⟨_, rfl, ?_⟩, ⟨_, rfl, ?_⟩, trivial⟩
   ·
    refine scV hS call97 (.cons rfl .nil) (c_rtop (hl0.ext RInt.stays hS.ext) (by omega)) ?_; clear hS; intro w hS
    refine nil ⟨⟨fun _ _ => hS.ext, fun _ _ => trivial⟩, mw ?_⟩
    refine ms (i := 11) (is := [13]) (by kernel_rfl) ⟨⟨_, rfl, ?_⟩, ⟨_, rfl, ?_⟩, trivial⟩
    ·
     refine scV hS call97 (.cons rfl .nil) (c_rtop (hh0.ext RInt.stays hS.ext) (by omega)) ?_; clear hS; intro w hS
     refine nil ⟨⟨fun _ _ => hS.ext, fun _ _ => trivial⟩, mw ?_⟩
     refine mq 0 12 [] (by kernel_rfl) rfl trivial (fun w hS => (yBuild zeroValue74 rfl pl74 (.cons rfl rfl (.cons rfl rfl .nil)) rfl)) <| m1 13 (by kernel_rfl) rfl ?_
     refine salloc hS zeroValue74 rfl ?_; clear hS; intro b8 w hS
     refine nil ⟨⟨fun _ _ => hS.ext, fun _ _ => trivial⟩, mw ?_⟩
     refine m1 14 (by kernel_rfl) rfl ?_
     refine sst hS rfl rfl sizeOf74 rfl rfl rfl rfl ?_; clear hS; intro w hS
     refine nil ⟨⟨fun _ _ => hS.ext, fun _ _ => trivial⟩, mw ?_⟩
     refine me (by kernel_rfl) ?_
     exact ⟨_, rfl, b8, rfl, rfl, rfl, rfl, rfl, hS, trivial⟩
    ·
     refine salloc hS zeroValue74 rfl ?_; clear hS; intro b8 w hS
     refine nil ⟨⟨fun _ _ => hS.ext, fun _ _ => trivial⟩, mw ?_⟩
     refine m1 11 (by kernel_rfl) rfl ?_
     refine scV hS call97 (.cons rfl .nil) (c_rtop (hh0.ext RInt.stays hS.ext) (by omega)) ?_; clear hS; intro w hS
     refine nil ⟨⟨fun _ _ => hS.ext, fun _ _ => trivial⟩, mw ?_⟩
     refine mq 0 12 [] (by kernel_rfl) rfl trivial (fun w hS => (yBuild zeroValue74 rfl pl74 (.cons rfl rfl (.cons rfl rfl .nil)) rfl)) <| m1 14 (by kernel_rfl) rfl ?_
     refine sst hS rfl rfl sizeOf74 rfl rfl rfl rfl ?_; clear hS; intro w hS
     refine nil ⟨⟨fun _ _ => hS.ext, fun _ _ => trivial⟩, mw ?_⟩
     refine me (by kernel_rfl) ?_
     exact ⟨_, rfl, b8, rfl, rfl, rfl, rfl, rfl, hS, trivial⟩
   ·
    refine salloc hS zeroValue74 rfl ?_; clear hS; intro b8 w hS
    refine nil ⟨⟨fun _ _ => hS.ext, fun _ _ => trivial⟩, mw ?_⟩
    refine m1 5 (by kernel_rfl) rfl ?_
    refine scV hS call97 (.cons rfl .nil) (c_rtop (hl0.ext RInt.stays hS.ext) (by omega)) ?_; clear hS; intro w hS
    refine nil ⟨⟨fun _ _ => hS.ext, fun _ _ => trivial⟩, mw ?_⟩
    refine m1 11 (by kernel_rfl) rfl ?_
    refine scV hS call97 (.cons rfl .nil) (c_rtop (hh0.ext RInt.stays hS.ext) (by omega)) ?_; clear hS; intro w hS
    refine nil ⟨⟨fun _ _ => hS.ext, fun _ _ => trivial⟩, mw ?_⟩
    refine mq 0 12 [] (by kernel_rfl) rfl trivial (fun w hS => (yBuild zeroValue74 rfl pl74 (.cons rfl rfl (.cons rfl rfl .nil)) rfl)) <| m1 14 (by kernel_rfl) rfl ?_
    refine sst hS rfl rfl sizeOf74 rfl rfl rfl rfl ?_; clear hS; intro w hS
    refine nil ⟨⟨fun _ _ => hS.ext, fun _ _ => trivial⟩, mw ?_⟩
    refine me (by kernel_rfl) ?_
    exact ⟨_, rfl, b8, rfl, rfl, rfl, rfl, rfl, hS, trivial⟩
  ·
   clear hS; rintro f w ⟨b8, h1, h2, h4, h6, h8, hS, -⟩
   refine seq <| seq <| region <| sv (yAsg rfl) <| nil <| cwQ <| block <| loop (fun f w zz => ∃ (k : Nat), f 1 = .int .i64 now ∧ f 2 = ptQ b2 ∧ f 4 = ptQ b4 ∧ f 6 = .slice av (boxS t now).length cvv ∧ f 8 = ptQ b8 ∧ f 9 = .int .i64 (k : Int) ∧ StX [] w0 w [blk b8 (spanC ⟨peakLo t now k, peakHi t now k⟩) 74] ∧ (k ≤ (boxS t now).length) ∧ zz = (boxS t now).length - k) _ ⟨_, rfl, 0, h1, h2, h4, h6, h8, rfl, hS, (Nat.zero_le _), rfl⟩ ?_
   clear hS
   rintro f w _ ⟨k, h1, h2, h4, h6, h8, h9, hS, hk, rfl⟩
   refine seq <| seq <| region <| sv (yMove h9) <| sv (yMove h6) <| sv (yLen rfl underlying35) <| sv (yLss rfl rfl) <| nil <| cwQ ?_
   refine cond rfl (fun c36 => ?_) (fun c36 => ?_)
   ·
    simp only [BS, ne_eq] at c36
    have hkl : k < (boxS t now).length := by omega
    obtain ⟨gk, ok, mk, alk, clk, ahk, chk, hgk, hck, hlk, hhk, -, -⟩ := bxs_get hbx hkl
    have hnk := high_len (boxAt_mem hkl)
    refine skip <| cwQ <| seq <| block ?_
    refine region_m (fun w => w.heap[b8]? = some (.cells (spanC ⟨peakLo t now k, peakHi t now k⟩ : List Value).toArray 74 (0, 0))) (fun w => Ext w0 w) [21] [] mixed (fun c a a' w h => by obtain ⟨_, v, hv, _⟩ := h; cases hv) hS ?_; clear hS; intro w hS
    refine mq 0 0 [] (by kernel_rfl) rfl trivial (fun w hS => (fa74_0 h8)) <| mq 1 1 [9, 20, 21] (by kernel_rfl) rfl (hS.at b8) (fun w hS => (yLdB rfl isAgg3 hS rfl)) <| mq 0 2 [] (by kernel_rfl) rfl trivial (fun w hS => (yMove h6)) <| mq 0 3 [] (by kernel_rfl) rfl trivial (fun w hS => (yMove h9)) <| mq 0 4 [] (by kernel_rfl) rfl trivial (fun w hS => (yIxQ rfl hgk rfl runUnderlying35 sizeOf43)) <| mq 0 5 [] (by kernel_rfl) rfl trivial (fun w hS => (fa43_1 rfl)) <| mq 0 6 [] (by kernel_rfl) rfl trivial (fun w hS => (fa41_1 rfl)) <| mq 2 7 [] (by kernel_rfl) rfl hS.ext (fun w hS => (yLd rfl isAgg39 ((hck.ext hS).at (j := 2) rfl))) <| mq 0 10 [] (by kernel_rfl) rfl trivial (fun w hS => (fa74_1 h8)) ?_
    refine mq 1 11 [19, 20, 21] (by kernel_rfl) rfl (hS.at b8) (fun w hS => (yLdB rfl isAgg3 hS rfl)) <| mq 0 12 [] (by kernel_rfl) rfl trivial (fun w hS => (yMove h6)) <| mq 0 13 [] (by kernel_rfl) rfl trivial (fun w hS => (yMove h9)) <| mq 0 14 [] (by kernel_rfl) rfl trivial (fun w hS => (yIxQ rfl hgk rfl runUnderlying35 sizeOf43)) <| mq 0 15 [] (by kernel_rfl) rfl trivial (fun w hS => (fa43_2 rfl)) <| mq 0 16 [] (by kernel_rfl) rfl trivial (fun w hS => (fa41_1 rfl)) <| mq 2 17 [] (by kernel_rfl) rfl hS.ext (fun w hS => (yLd rfl isAgg39 ((hck.ext hS).at (j := 4) rfl))) <| m1 8 (by kernel_rfl) rfl ?_
    refine scV hS call97 (.cons rfl .nil) (c_rtop (hlk.ext RInt.stays hS.ext) (by omega)) ?_; clear hS; intro w hS
    refine nil ⟨⟨fun _ _ => (hS.at b8), fun _ _ => hS.ext⟩, mw ?_⟩
    refine mq 0 9 [] (by kernel_rfl) rfl trivial (fun w hS => (yMin rfl rfl)) <| m1 18 (by kernel_rfl) rfl ?_
    refine scV hS call97 (.cons rfl .nil) (c_rtop (hhk.ext RInt.stays hS.ext) (by omega)) ?_; clear hS; intro w hS
    refine nil ⟨⟨fun _ _ => (hS.at b8), fun _ _ => hS.ext⟩, mw ?_⟩
    refine mq 0 19 [] (by kernel_rfl) rfl trivial (fun w hS => (yMax rfl rfl)) <| mq 0 20 [] (by kernel_rfl) rfl trivial (fun w hS => (yBuild zeroValue74 rfl pl74 (.cons rfl rfl (.cons rfl rfl .nil)) rfl)) <| m1 21 (by kernel_rfl) rfl ?_
    refine sst hS h8 rfl sizeOf74 rfl rfl rfl rfl ?_; clear hS; intro w hS
    refine nil ⟨⟨fun h => absurd h (by decide), fun _ _ => hS.ext⟩, mw ?_⟩
    refine me (by kernel_rfl) <| cwQ <| region <| sv (yMove h9) <| sv (yAdd rfl rfl ⟨by omega, by omega⟩) <| sv (yAsg rfl) <| nil ?_
    exact ⟨_, _, rfl, ⟨k + 1, h1, h2, h4, h6, h8, rfl, (by rw [peakLo_succ, peakHi_succ]; exact hS), (by omega), rfl⟩, by omega⟩
   ·
    simp only [BS, ne_eq] at c36
    obtain rfl : k = (boxS t now).length := by omega
    replace hS := hS0.call hS
    simp only [List.cons_append, List.nil_append] at hS
    refine exit <| cwQ <| seq <| region <| sv (yLdBA h8 isAgg74 sizeOf74 (hS.at _) rfl rfl) ?_
    refine sst hS h4 rfl sizeOf74 rfl rfl rfl rfl ?_; clear hS; intro w hS
    refine sv (yAsg rfl) <| nil <| cwQ <| wp_ret <| retQ (resV2 rfl (rc h4 isAgg74 sizeOf74 (hS.at _) rfl rfl) (rt rfl)) ?_
    rw [peak_ok c17]
    exact ⟨rfl, hS.ext⟩
end Go.Proofs.YtgidbailiababaaGreatDoor

/- part Sy21 -/
namespace Go.Proofs.YtgidbailiababaaGreatDoor
open Go Bx Go.Proofs.Tryz
set_option maxHeartbeats 2000000 in
theorem w_SurgeSpans {t : Sgt} {cs : List Value} {now : Int} {w0 : World} (hg : Glb w0) (h : RSgt w0 cs t) (hI : I64 now) : CV Tryz.prog 13 #[.agg cs.toArray, .int .i64 now] w0 (.bool true) := by
 obtain ⟨cv, gv, tv, fv, rfl, hT, hG, hw64, hf64, hk64, hC, hF, hl64, hm64, hr64, hq64⟩ := id h
 obtain ⟨ag, cg, rfl, hgcap, hgmx, hgel⟩ := id hG
 obtain ⟨ak, ck, rfl, hkcap, hkmx, hkel⟩ := id hC
 obtain ⟨ae, ce, rfl, hecap, hemx, heel⟩ := id hF
 have hg1 := hg
 refine enter func13 rfl ntmps13 rfl ?_
 have hS := St.start w0
 refine seq <| region ?_
 refine sbox hS rfl rfl ?_; clear hS; intro b2 w hS
 refine sv (yAsg rfl) <| nil <| cwQ <| seq <| region <| sv (yLdBA rfl isAgg29 sizeOf29 (hS.at _) rfl rfl) <| sv (yMove rfl) ?_
 refine scall call48 (.cons rfl (.cons rfl .nil)) (c_Envelope (h.ext hS.ext) (hg.ext hS.ext) hI) ?_
 rintro _ w ⟨lv1, hv1, i1, rfl, hi1, hM⟩; replace hS := hS.call1 hM; clear hM
 refine sv (yMove rfl) <| sv (yExt rfl rfl) <| sv (yExt rfl rfl) <| sv (yExt rfl rfl) ?_
 obtain ⟨al1, cl1, rfl, -⟩ := id (hi1 w (fun it hi => hS.ok (packI i1) (by simp) it hi)).1
 obtain ⟨ah1, ch1, rfl, -⟩ := id (hi1 w (fun it hi => hS.ok (packI i1) (by simp) it hi)).2
 refine salloc hS zeroValue41 rfl ?_; clear hS; intro b5 w hS
 refine salloc hS zeroValue41 rfl ?_; clear hS; intro b6 w hS
 refine sst hS rfl rfl sizeOf41 rfl rfl rfl rfl ?_; clear hS; intro w hS
 refine sst hS rfl rfl sizeOf41 rfl rfl rfl rfl ?_; clear hS; intro w hS
 refine sv (yAsg rfl) <| nil <| cwQ <| seq <| region <| sv (yLdBA rfl isAgg29 sizeOf29 (hS.at _) rfl rfl) <| sv (yMove rfl) ?_
 refine scall call49 (.cons rfl (.cons rfl .nil)) (c_rEnvelope (h.ext hS.ext)) ?_
 rintro _ w ⟨lv2, hv2, i2, rfl, hi2, hM⟩; replace hS := hS.call1 hM; clear hM
 refine sv (yMove rfl) <| sv (yExt rfl rfl) <| sv (yExt rfl rfl) <| sv (yExt rfl rfl) ?_
 obtain ⟨al2, cl2, rfl, -⟩ := id (hi2 w (fun it hi => hS.ok (packI i2) (by simp) it hi)).1
 obtain ⟨ah2, ch2, rfl, -⟩ := id (hi2 w (fun it hi => hS.ok (packI i2) (by simp) it hi)).2
 refine salloc hS zeroValue41 rfl ?_; clear hS; intro b8 w hS
 refine salloc hS zeroValue41 rfl ?_; clear hS; intro b9 w hS
 refine sst hS rfl rfl sizeOf41 rfl rfl rfl rfl ?_; clear hS; intro w hS
 refine sst hS rfl rfl sizeOf41 rfl rfl rfl rfl ?_; clear hS; intro w hS
 refine sv (yAsg rfl) <| nil <| cwQ <| seq <| seq <| region <| sv (yLdBA rfl isAgg41 sizeOf41 (hS.at _) rfl rfl) <| sv (yLdBA rfl isAgg41 sizeOf41 (hS.at _) rfl rfl) ?_
 refine scV hS call23 (.cons rfl (.cons rfl .nil)) (c_Same (show RSer w [.int .i64 (envR t now).1.frm, _] (envR t now).1 from ⟨_, rfl, env_f64 hf64, (hi1 w (fun it hi => hS.ok (packI i1) (by simp) it hi)).1⟩) (show RSer w [.int .i64 (envR t now).1.frm, _] (envR t now).1 from ⟨_, rfl, env_f64 hf64, (hi2 w (fun it hi => hS.ok (packI i2) (by simp) it hi)).1⟩)) ?_; clear hS; intro w hS
 refine sv (yNot rfl) <| sv (yMove rfl) ?_
 refine sg rfl rfl rfl (fun g => (yLdBA rfl isAgg41 sizeOf41 (hS.at _) rfl rfl)) (fun v32 g32 => ?_)
 refine sg rfl rfl rfl (fun g => (yLdBA rfl isAgg41 sizeOf41 (hS.at _) rfl rfl)) (fun v33 g33 => ?_)
 refine sgc hS rfl rfl rfl call23 (fun g => (.cons (g32.1 g) (.cons (g33.1 g) .nil))) (fun g => (c_Same (show RSer w [.int .i64 (envR t now).2.1.frm, _] (envR t now).2.1 from ⟨_, rfl, env_f64b hf64, (hi1 w (fun it hi => hS.ok (packI i1) (by simp) it hi)).2⟩) (show RSer w [.int .i64 (envR t now).2.1.frm, _] (envR t now).2.1 from ⟨_, rfl, env_f64b hf64, (hi2 w (fun it hi => hS.ok (packI i2) (by simp) it hi)).2⟩))) ?_; clear hS; intro v34 w hS g34
 refine sg rfl rfl rfl (fun g => (yNot (g34.1 g))) (fun v35 g35 => ?_)
 refine sv (yOr rfl rfl (fun hB => (g35.1 hB))) <| sv (yMove rfl) ?_
 refine sg rfl rfl rfl (fun g => (yMove rfl)) (fun v38 g38 => ?_)
 refine sg rfl rfl rfl (fun g => (yMove rfl)) (fun v39 g39 => ?_)
 refine sg rfl rfl rfl (fun g => (yNeq (g38.1 g) (g39.1 g))) (fun v40 g40 => ?_)
 refine sv (yOr rfl rfl (fun hB => (g40.1 hB))) <| nil <| cwQ ?_
 refine cond rfl (fun c41 => ?_) (fun c41 => ?_)
 ·
  exfalso
  simp at c41
 ·
  refine skip <| cwQ <| seq <| region <| sv (yLdBA rfl isAgg29 sizeOf29 (hS.at _) rfl rfl) <| sv (yMove rfl) ?_
  refine scV hS call50 (.cons rfl (.cons rfl .nil)) (c_Peak (h.ext hS.ext) (hg.ext hS.ext) hI) ?_; clear hS; intro w hS
  refine sv (yMove rfl) <| sv (yExt rfl rfl) <| sv (yExt rfl rfl) ?_
  refine salloc hS zeroValue74 rfl ?_; clear hS; intro b11 w hS
  refine sst hS rfl rfl sizeOf74 rfl rfl rfl rfl ?_; clear hS; intro w hS
  refine sv (yAsg rfl) <| nil <| cwQ <| seq <| region <| sv (yLdBA rfl isAgg29 sizeOf29 (hS.at _) rfl rfl) <| sv (yMove rfl) ?_
  refine scV hS call51 (.cons rfl (.cons rfl .nil)) (c_rPeak (h.ext hS.ext)) ?_; clear hS; intro w hS
  refine sv (yMove rfl) <| sv (yExt rfl rfl) <| sv (yExt rfl rfl) ?_
  refine salloc hS zeroValue74 rfl ?_; clear hS; intro b12 w hS
  refine sst hS rfl rfl sizeOf74 rfl rfl rfl rfl ?_; clear hS; intro w hS
  refine sv (yAsg rfl) <| nil <| cwQ <| seq <| region <| sv (yLdBA rfl isAgg74 sizeOf74 (hS.at _) rfl rfl) <| sv (yLdBA rfl isAgg74 sizeOf74 (hS.at _) rfl rfl) <| sv (eqS74 rfl rfl) <| sv (yMove rfl) ?_
  refine sg rfl rfl rfl (fun g => (yMove rfl)) (fun v58 g58 => ?_)
  refine sg rfl rfl rfl (fun g => (yMove rfl)) (fun v59 g59 => ?_)
  refine sg rfl rfl rfl (fun g => (yEql (g58.1 g) (g59.1 g))) (fun v60 g60 => ?_)
  refine sv (yAnd rfl (fun hB => (g60.1 hB)) rfl) <| sv (yMove rfl) ?_
  refine sgc hS rfl rfl rfl call19 (fun g => .nil) (fun g => (c_Awake (hg1.ext hS.ext))) ?_; clear hS; intro v63 w hS g63
  refine sv (yAnd rfl (fun hB => (g63.1 hB)) rfl) <| sv (yAsg rfl) <| nil <| cwQ <| wp_ret ?_
  exact retV (res1 rfl (congrArg Value.bool (by simp))) hS.ext
end Go.Proofs.YtgidbailiababaaGreatDoor

