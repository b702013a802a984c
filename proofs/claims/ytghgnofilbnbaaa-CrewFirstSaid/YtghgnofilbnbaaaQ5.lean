/- Merged texts, part 5. -/
import Derived.Test.YtghgnofilbnbaaaQ4
import Derived.SizedLaws
import Derived.Test.YtghgnofilbnbaaaProg
set_option linter.all false
/- part Ck31 -/
namespace Go.Proofs.Ytghgnofilbnbaaa
open Go Bx
set_option maxHeartbeats 8000000 in
/-- barrage/barragelaw10.CrewTwo -/
theorem w_CrewTwo {c : Crew} {cs : List Value} {acts : List Acn} {av : Value} {w0 : World} (h : RCrew w0 cs c) (ha : Sl w0 6 RAct av acts) : CV Try.prog 10 #[.agg cs.toArray, av] w0 (.bool true) := by
  obtain ⟨ov, kv, nv, rfl, hso, hsk, hsn, hrm⟩ := id h
  obtain ⟨a, cap, rfl, hcap, hmx, hel⟩ := id hso
  obtain ⟨ak, ck, rfl, hkcap, hkmx, -⟩ := id hsk
  obtain ⟨an, cn, rfl, hncap, hnmx, heln⟩ := id hsn
  obtain ⟨aa, ca, rfl, hacap, hamx, hela⟩ := id ha
  refine enter Try.func10 rfl Try.ntmps10 rfl ?_
  have hS := St.start w0
  refine seq ?_
  refine region ?_
  refine sbox hS rfl rfl ?_; clear hS; intro b2 w hS
  refine sv (yAsg rfl) ?_
  refine nil ?_
  show Code.wp _ _ _ _ _
  refine seq ?_
  refine region ?_
  refine sv (yLdBA rfl Try.isAgg26 Try.sizeOf26 (hS.at _) rfl rfl) ?_
  refine sv (yMove rfl) ?_
  refine scall Try.call19 (.cons rfl (.cons rfl .nil)) (c_Orders (h.ext hS.ext) (ha.ext RAct.stays hS.ext)) ?_
  rintro _ w ⟨ov, rfl, hM⟩; replace hS := hS.call1 hM; clear hM
  obtain ⟨ao, co, rfl⟩ := row_shape (hS.row ov)
  refine sv (yMove rfl) ?_
  refine sv (yExt rfl rfl) ?_
  refine sv (yExt rfl rfl) ?_
  refine sv (yAsg rfl) ?_
  refine sv (yAsg rfl) ?_
  refine nil ?_
  show Code.wp _ _ _ _ _
  refine seq ?_
  refine seq ?_
  refine region ?_
  refine sv (yMove rfl) ?_
  refine sv (yNeq rfl rfl) ?_
  refine nil ?_
  show Code.wp _ _ _ _ _
  refine cond rfl (fun c28 => ?_) (fun c28 => ?_)
  ·
    simp only [Bool.and_eq_true, Bool.or_eq_true, Bool.and_eq_false_iff, Bool.or_eq_false_iff, decide_eq_true_eq, decide_eq_false_iff_not, Bool.not_eq_true, Bool.not_eq_false, Bool.not_not, Bool.not_eq_eq_eq_not, Bool.not_true, Bool.not_false, Bool.false_eq_true, Bool.true_eq_false, ne_eq, Decidable.not_not, not_false_eq_true, not_true_eq_false] at c28
    refine seq ?_
    refine region ?_
    refine sv (yMove rfl) ?_
    refine sv (yLen rfl Try.underlying46) ?_
    refine sv (yEql rfl rfl) ?_
    refine sv (yMove rfl) ?_
    refine sgc hS rfl rfl rfl Try.call18 (fun g => .nil) (fun g => c_Awake) ?_; clear hS; intro v33 w hS g33
    refine sv (yAnd rfl (fun hB => (g33.1 hB)) rfl) ?_
    refine sv (yAsg rfl) ?_
    refine nil ?_
    show Code.wp _ _ _ _ _
    refine wp_ret (thenR ?_)
    exact retV (res1 rfl (eqB (by rw [playO_bad c28]; rfl))) hS.ext
  ·
    simp only [Bool.and_eq_true, Bool.or_eq_true, Bool.and_eq_false_iff, Bool.or_eq_false_iff, decide_eq_true_eq, decide_eq_false_iff_not, Bool.not_eq_true, Bool.not_eq_false, Bool.not_not, Bool.not_eq_eq_eq_not, Bool.not_true, Bool.not_false, Bool.false_eq_true, Bool.true_eq_false, ne_eq, Decidable.not_not, not_false_eq_true, not_true_eq_false] at c28
    have hE : playE c acts = 0 := c28
    obtain ⟨hc9, hn60, hall9⟩ := play_ok hE
    have hnk := hc9.nkeys
    have hol : (playO c acts).length ≤ acts.length := by rw [playO_ok hE]; exact (plN_inv hc9 hall9 _ (Nat.le_refl _)).1.nord
    refine skip ?_
    show Code.wp _ _ _ _ _
    refine seq ?_
    refine seq ?_
    refine region ?_
    refine sv (yAsg rfl) ?_
    refine nil ?_
    show Code.wp _ _ _ _ _
    refine block ?_
    refine loop (fun f w zz => ∃ (i : Nat), f 1 = .slice aa acts.length ca ∧ f 2 = .pointer (some ⟨b2, 0, none⟩) ∧ f 5 = .slice ao (playO c acts).length co ∧ f 7 = .int .i64 (i : Int) ∧ StX [] w0 w [rowI (.slice ao (playO c acts).length co) 55 5 (playO c acts).length ((playO c acts).flatMap ordC), blk b2 [.slice a c.ops.length cap, .slice ak c.keys.length ck, .slice an c.kinds.length cn] 26] ∧ (i ≤ (playO c acts).length) ∧ zz = (playO c acts).length - i) _ ⟨_, rfl, 0, rfl, rfl, rfl, rfl, hS, (Nat.zero_le _), rfl⟩ ?_
    clear hS
    rintro f w _ ⟨i, h1, h2, h5, h7, hS, hi, rfl⟩
    refine seq ?_
    refine seq ?_
    refine region ?_
    refine sv (yMove h7) ?_
    refine sv (yMove h5) ?_
    refine sv (yLen rfl Try.underlying46) ?_
    refine sv (yLss rfl rfl) ?_
    refine nil ?_
    show Code.wp _ _ _ _ _
    refine cond rfl (fun c38 => ?_) (fun c38 => ?_)
    ·
      simp only [Bool.and_eq_true, Bool.or_eq_true, Bool.and_eq_false_iff, Bool.or_eq_false_iff, decide_eq_true_eq, decide_eq_false_iff_not, Bool.not_eq_true, Bool.not_eq_false, Bool.not_not, Bool.not_eq_eq_eq_not, Bool.not_true, Bool.not_false, Bool.false_eq_true, Bool.true_eq_false, ne_eq, Decidable.not_not, not_false_eq_true, not_true_eq_false] at c38
      refine skip ?_
      show Code.wp _ _ _ _ _
      refine seq ?_
      refine block ?_
      refine seq ?_
      refine region ?_
      obtain ⟨o, hxo, -⟩ := drop_of (l := playO c acts) (k := i) (by omega)
      obtain ⟨gg, xx, zs, gi, ki, ai, hT⟩ := two_facts hE (List.mem_of_getElem? hxo)
      have hgi := hT.hgi
      have hki := hT.hki
      have hai := hT.hat
      have hgl := (List.getElem?_eq_some_iff.1 hT.hg).1
      have hsl := (List.getElem?_eq_some_iff.1 hT.hs).1
      have hkl := (List.getElem?_eq_some_iff.1 hT.hx).1
      have hgt := (hall9 gi _ hT.hg).tm
      have hst := (hall9 ai _ hT.hs).tm
      have hstm := hT.tm
      obtain ⟨zg, hxg, hdg⟩ := drop_of (l := acts) (k := gi) (by omega)
      obtain ⟨bg, og, csg, hag, hleng, hcsg, hRg⟩ := hela (gi) (by omega)
      obtain rfl : zg = acts[gi] := (List.getElem?_eq_some_iff.1 hxg).2.symm
      generalize acts[gi] = zg at hxg hdg hRg
      obtain ⟨rfl, hig⟩ := hRg
      obtain rfl : gg = zg := Option.some.inj (hT.hg.symm.trans hxg)
      obtain ⟨zt, hxt, hdt⟩ := drop_of (l := acts) (k := ai) (by omega)
      obtain ⟨bt, ot, cst, hat, hlent, hcst, hRt⟩ := hela (ai) (by omega)
      obtain rfl : zt = acts[ai] := (List.getElem?_eq_some_iff.1 hxt).2.symm
      generalize acts[ai] = zt at hxt hdt hRt
      obtain ⟨rfl, hit⟩ := hRt
      obtain rfl : zs = zt := Option.some.inj (hT.hs.symm.trans hxt)
      obtain ⟨zk, hxk, hdk⟩ := drop_of (l := c.kinds) (k := ki) (by omega)
      obtain ⟨bk, ok, csk, hak, hlenk, hcsk, hRk⟩ := heln (ki) (by omega)
      obtain rfl : zk = c.kinds[ki] := (List.getElem?_eq_some_iff.1 hxk).2.symm
      generalize c.kinds[ki] = zk at hxk hdk hRk
      obtain ⟨xv, rfl, -, -, -, -, hsx, -⟩ := hRk
      obtain rfl : xx = zk := Option.some.inj (hT.hx.symm.trans hxk)
      obtain ⟨axk, cxk, rfl, hxcap, hxmx, helx⟩ := id hsx
      obtain ⟨go, rfl, -⟩ := row_get (hS.row (.slice ao (playO c acts).length co)) (by omega)
      refine sv (yMove h5) ?_
      refine sv (yMove h7) ?_
      refine sv (yIx0 rfl rfl Try.runUnderlying46 Try.sizeOf55 (by omega)) ?_
      refine sv (yLdA rfl Try.isAgg55 Try.sizeOf55 (flat_cells0 ordC_len (row_at (hS.row (.slice (some ⟨go, 0, none⟩) (playO c acts).length co)) rfl (by omega)) hxo) rfl) ?_
      refine salloc hS Try.zeroValue55 rfl ?_; clear hS; intro b8 w hS
      refine sst hS rfl rfl Try.sizeOf55 rfl rfl rfl rfl ?_; clear hS; intro w hS
      refine nil ?_
      show Code.wp _ _ _ _ _
      refine seq ?_
      refine region ?_
      replace hS : StX [] w0 w (blk b8 (ordC o) 55 :: rowI (.slice (some ⟨go, 0, none⟩) (playO c acts).length co) 55 5 (playO c acts).length ((playO c acts).flatMap ordC) :: blk b2 [.slice a c.ops.length cap, .slice ak c.keys.length ck, .slice an c.kinds.length cn] 26 :: []) := hS
      refine sv (fa55_0 rfl) ?_
      refine sv (yLdB rfl Try.isAgg3 (hS.at _) rfl) ?_
      refine sv (fa55_1 rfl) ?_
      refine sv (yLdB rfl Try.isAgg3 (hS.at _) rfl) ?_
      refine sv (yMax rfl rfl) ?_
      refine sv (yAsg rfl) ?_
      refine nil ?_
      show Code.wp _ _ _ _ _
      refine seq ?_
      refine seq ?_
      refine region ?_
      refine sv (fa55_0 rfl) ?_
      refine sv (yLdB rfl Try.isAgg3 (hS.at _) rfl) ?_
      refine sv (yLss rfl rfl) ?_
      refine sv (yMove rfl) ?_
      refine sg rfl rfl rfl (fun g => (yMove rfl)) (fun v54 g54 => ?_)
      refine sg rfl rfl rfl (fun g => (yMove h1)) (fun v55 g55 => ?_)
      refine sg rfl rfl rfl (fun g => (yLen (g55.1 g) Try.underlying37)) (fun v56 g56 => ?_)
      refine sg rfl rfl rfl (fun g => (yGeq (g54.1 g) (g56.1 g))) (fun v57 g57 => ?_)
      refine sv (yOr rfl rfl (fun hB => (g57.1 hB))) ?_
      refine sv (yMove rfl) ?_
      refine sg rfl rfl rfl (fun g => (fa55_2 rfl)) (fun v60 g60 => ?_)
      refine sg rfl rfl rfl (fun g => (yLdB (g60.1 g) Try.isAgg3 (hS.at _) rfl)) (fun v61 g61 => ?_)
      refine sg rfl rfl rfl (fun g => (yLss (g61.1 g) rfl)) (fun v62 g62 => ?_)
      refine sv (yOr rfl rfl (fun hB => (g62.1 hB))) ?_
      refine sv (yMove rfl) ?_
      refine sg rfl rfl rfl (fun g => (fa55_2 rfl)) (fun v65 g65 => ?_)
      refine sg rfl rfl rfl (fun g => (yLdB (g65.1 g) Try.isAgg3 (hS.at _) rfl)) (fun v66 g66 => ?_)
      refine sg rfl rfl rfl (fun g => (fa26_2 h2)) (fun v67 g67 => ?_)
      refine sg rfl rfl rfl (fun g => (yLdB (g67.1 g) Try.isAgg24 (hS.at _) rfl)) (fun v68 g68 => ?_)
      refine sg rfl rfl rfl (fun g => (yLen (g68.1 g) Try.underlying24)) (fun v69 g69 => ?_)
      refine sg rfl rfl rfl (fun g => (yGeq (g66.1 g) (g69.1 g))) (fun v70 g70 => ?_)
      refine sv (yOr rfl rfl (fun hB => (g70.1 hB))) ?_
      refine nil ?_
      show Code.wp _ _ _ _ _
      refine cond rfl (fun c71 => ?_) (fun c71 => ?_)
      ·
        simp only [Bool.and_eq_true, Bool.or_eq_true, Bool.and_eq_false_iff, Bool.or_eq_false_iff, decide_eq_true_eq, decide_eq_false_iff_not, Bool.not_eq_true, Bool.not_eq_false, Bool.not_not, Bool.not_eq_eq_eq_not, Bool.not_true, Bool.not_false, Bool.false_eq_true, Bool.true_eq_false, ne_eq, Decidable.not_not, not_false_eq_true, not_true_eq_false] at c71
        exfalso; omega
      ·
        simp only [Bool.and_eq_true, Bool.or_eq_true, Bool.and_eq_false_iff, Bool.or_eq_false_iff, decide_eq_true_eq, decide_eq_false_iff_not, Bool.not_eq_true, Bool.not_eq_false, Bool.not_not, Bool.not_eq_eq_eq_not, Bool.not_true, Bool.not_false, Bool.false_eq_true, Bool.true_eq_false, ne_eq, Decidable.not_not, not_false_eq_true, not_true_eq_false] at c71
        refine skip ?_
        show Code.wp _ _ _ _ _
        refine seq ?_
        refine seq ?_
        refine region ?_
        refine sv (yAsg rfl) ?_
        refine nil ?_
        show Code.wp _ _ _ _ _
        refine block ?_
        refine loop (fun f w zz => ∃ (k : Nat), f 1 = .slice aa acts.length ca ∧ f 2 = .pointer (some ⟨b2, 0, none⟩) ∧ f 5 = .slice (some ⟨go, 0, none⟩) (playO c acts).length co ∧ f 7 = .int .i64 (i : Int) ∧ f 8 = .pointer (some ⟨b8, 0, none⟩) ∧ f 9 = .int .i64 (max o.giv o.conf) ∧ f 10 = .int .i64 (k : Int) ∧ StX [] w0 w [blk b8 (ordC o) 55, rowI (.slice (some ⟨go, 0, none⟩) (playO c acts).length co) 55 5 (playO c acts).length ((playO c acts).flatMap ordC), blk b2 [.slice a c.ops.length cap, .slice ak c.keys.length ck, .slice an c.kinds.length cn] 26] ∧ (k ≤ i) ∧ zz = i - k) _ ⟨_, rfl, 0, h1, h2, h5, h7, rfl, rfl, rfl, hS, (Nat.zero_le _), rfl⟩ ?_
        clear hS
        rintro f w _ ⟨k, h1, h2, h5, h7, h8, h9, h10, hS, hk, rfl⟩
        refine seq ?_
        refine seq ?_
        refine region ?_
        refine sv (yMove h10) ?_
        refine sv (yMove h7) ?_
        refine sv (yLss rfl rfl) ?_
        refine nil ?_
        show Code.wp _ _ _ _ _
        refine cond rfl (fun c74 => ?_) (fun c74 => ?_)
        ·
          simp only [Bool.and_eq_true, Bool.or_eq_true, Bool.and_eq_false_iff, Bool.or_eq_false_iff, decide_eq_true_eq, decide_eq_false_iff_not, Bool.not_eq_true, Bool.not_eq_false, Bool.not_not, Bool.not_eq_eq_eq_not, Bool.not_true, Bool.not_false, Bool.false_eq_true, Bool.true_eq_false, ne_eq, Decidable.not_not, not_false_eq_true, not_true_eq_false] at c74
          refine skip ?_
          show Code.wp _ _ _ _ _
          refine seq ?_
          refine block ?_
          refine seq ?_
          refine region_draw mixed (by kernel_rfl) hS ?_
          obtain ⟨u, hxu, -⟩ := drop_of (l := playO c acts) (k := k) (by omega)
          have hpr := pair_get (two_ok hE).2 hxu hxo (by omega)
          refine qv (fun w hS => (yMove h5)) ?_
          refine qv (fun w hS => (yMove h10)) ?_
          refine qv (fun w hS => (yIx0 rfl rfl Try.runUnderlying46 Try.sizeOf55 (by omega))) ?_
          refine qv (fun w hS => (fa55_0 rfl)) ?_
          refine qv (fun w hS => (yLd rfl Try.isAgg3 ((flat_cells0 ordC_len (row_at (hS.row (.slice (some ⟨go, 0, none⟩) (playO c acts).length co)) rfl (by omega)) hxu).at (j := 0) rfl))) ?_
          refine qv (fun w hS => (fa55_0 h8)) ?_
          refine qv (fun w hS => (yLdB rfl Try.isAgg3 (hS.at _) rfl)) ?_
          refine qv (fun w hS => (yEql rfl rfl)) ?_
          refine qv (fun w hS => (yMove rfl)) ?_
          refine qg rfl rfl rfl (fun g w hS => (yMove h5)) (fun v86 g86 => ?_)
          refine qg rfl rfl rfl (fun g w hS => (yMove h10)) (fun v87 g87 => ?_)
          refine qg rfl rfl rfl (fun g w hS => (yIx0 (g86.1 g) (g87.1 g) Try.runUnderlying46 Try.sizeOf55 (by omega))) (fun v88 g88 => ?_)
          refine qg rfl rfl rfl (fun g w hS => (fa55_4 (g88.1 g))) (fun v89 g89 => ?_)
          refine qg rfl rfl rfl (fun g w hS => (yLd (g89.1 g) Try.isAgg3 ((flat_cells0 ordC_len (row_at (hS.row (.slice (some ⟨go, 0, none⟩) (playO c acts).length co)) rfl (by omega)) hxu).at (j := 4) rfl))) (fun v90 g90 => ?_)
          refine qg rfl rfl rfl (fun g w hS => (fa55_4 h8)) (fun v91 g91 => ?_)
          refine qg rfl rfl rfl (fun g w hS => (yLdB (g91.1 g) Try.isAgg3 (hS.at _) rfl)) (fun v92 g92 => ?_)
          refine qg rfl rfl rfl (fun g w hS => (yGtr (g90.1 g) (g92.1 g))) (fun v93 g93 => ?_)
          refine qv (fun w hS => (yOr rfl rfl (fun hB => (g93.1 hB)))) ?_
          clear hS; refine qnil (fun w hS => ?_)
          show Code.wp _ _ _ _ _
          refine cond rfl (fun c94 => ?_) (fun c94 => ?_)
          ·
            simp only [Bool.and_eq_true, Bool.or_eq_true, Bool.and_eq_false_iff, Bool.or_eq_false_iff, decide_eq_true_eq, decide_eq_false_iff_not, Bool.not_eq_true, Bool.not_eq_false, Bool.not_not, Bool.not_eq_eq_eq_not, Bool.not_true, Bool.not_false, Bool.false_eq_true, Bool.true_eq_false, ne_eq, Decidable.not_not, not_false_eq_true, not_true_eq_false] at c94
            exfalso
            rcases c94 with h1 | h1
            · exact hpr.1 h1
            · omega
          ·
            simp only [Bool.and_eq_true, Bool.or_eq_true, Bool.and_eq_false_iff, Bool.or_eq_false_iff, decide_eq_true_eq, decide_eq_false_iff_not, Bool.not_eq_true, Bool.not_eq_false, Bool.not_not, Bool.not_eq_eq_eq_not, Bool.not_true, Bool.not_false, Bool.false_eq_true, Bool.true_eq_false, ne_eq, Decidable.not_not, not_false_eq_true, not_true_eq_false] at c94
            refine skip ?_
            show Code.wp _ _ _ _ _
            refine region ?_
            refine sv (yMove h10) ?_
            refine sv (yAdd rfl rfl ⟨by omega, by omega⟩) ?_
            refine sv (yAsg rfl) ?_
            refine nil ?_
            exact ⟨_, _, rfl, ⟨k + 1, h1, h2, h5, h7, h8, h9, rfl, hS, (by omega), rfl⟩, by omega⟩
        ·
          simp only [Bool.and_eq_true, Bool.or_eq_true, Bool.and_eq_false_iff, Bool.or_eq_false_iff, decide_eq_true_eq, decide_eq_false_iff_not, Bool.not_eq_true, Bool.not_eq_false, Bool.not_not, Bool.not_eq_eq_eq_not, Bool.not_true, Bool.not_false, Bool.false_eq_true, Bool.true_eq_false, ne_eq, Decidable.not_not, not_false_eq_true, not_true_eq_false] at c74
          refine exit ?_
          show Code.wp _ _ _ _ _
          refine seqJ (n := 294) (fun f w => ∃ (p11 p12 : Nat), f 1 = .slice aa acts.length ca ∧ f 2 = .pointer (some ⟨b2, 0, none⟩) ∧ f 5 = .slice (some ⟨go, 0, none⟩) (playO c acts).length co ∧ f 7 = .int .i64 (i : Int) ∧ f 8 = .pointer (some ⟨b8, 0, none⟩) ∧ f 9 = .int .i64 (max o.giv o.conf) ∧ f 11 = .pointer (some ⟨p11, 0, none⟩) ∧ f 12 = .pointer (some ⟨p12, 0, none⟩) ∧ StX [] w0 w [blk p11 (actC gg) 53, blk p12 [.string xx.name, .int .i64 xx.grade, .int .i64 xx.second, .int .i64 xx.within, .slice axk xx.keys.length cxk, .bool xx.split] 79, blk b8 (ordC o) 55, rowI (.slice (some ⟨go, 0, none⟩) (playO c acts).length co) 55 5 (playO c acts).length ((playO c acts).flatMap ordC), blk b2 [.slice a c.ops.length cap, .slice ak c.keys.length ck, .slice an c.kinds.length cn] 26] ∧ True) ?_ ?_
          ·
            refine region_mix (fun w => StX [] w0 w (blk b8 (ordC o) 55 :: rowI (.slice (some ⟨go, 0, none⟩) (playO c acts).length co) 55 5 (playO c acts).length ((playO c acts).flatMap ordC) :: blk b2 [.slice a c.ops.length cap, .slice ak c.keys.length ck, .slice an c.kinds.length cn] 26 :: [])) 15 mixed hS ?_
            clear hS; intro w hS
            refine f_step 0 (by kernel_rfl) rfl (fun c a a' w h => by obtain ⟨_, v, hv, _⟩ := h; cases hv) (hS.sub (List.Sublist.refl _)) (fun w hS => (yMove h1)) ?_
            refine f_step 1 (by kernel_rfl) rfl (fun c a a' w h => by obtain ⟨_, v, hv, _⟩ := h; cases hv) (hS.sub (List.Sublist.refl _)) (fun w hS => (fa55_0 h8)) ?_
            refine f_step 2 (by kernel_rfl) rfl (fun c a a' w h => by obtain ⟨_, v, hv, _⟩ := h; cases hv) (hS.sub (List.Sublist.refl _)) (fun w hS => (yLdB rfl Try.isAgg3 (hS.at _) rfl)) ?_
            refine f_step 3 (by kernel_rfl) rfl (fun c a a' w h => by obtain ⟨_, v, hv, _⟩ := h; cases hv) (hS.sub (List.Sublist.refl _)) (fun w hS => (yIxa rfl hag (rfl.trans (congrArg (Value.int .i64) hgi)) Try.runUnderlying37 Try.sizeOf53 (by omega) (by omega))) ?_
            refine f_step 4 (by kernel_rfl) rfl (fun c a a' w h => by obtain ⟨_, v, hv, _⟩ := h; cases hv) (hS.sub (List.Sublist.refl _)) (fun w hS => (yLdA rfl Try.isAgg53 Try.sizeOf53 (hcsg.ext hS.ext) rfl)) ?_
            refine f_step 5 (by kernel_rfl) rfl (fun c a a' w h => by obtain ⟨_, v, hv, _⟩ := h; cases hv) (hS.sub (List.Sublist.refl _)) (fun w hS => (fa26_2 h2)) ?_
            refine f_step 6 (by kernel_rfl) rfl (fun c a a' w h => by obtain ⟨_, v, hv, _⟩ := h; cases hv) (hS.sub (List.Sublist.refl _)) (fun w hS => (yLdB rfl Try.isAgg24 (hS.at _) rfl)) ?_
            refine f_step 7 (by kernel_rfl) rfl (fun c a a' w h => by obtain ⟨_, v, hv, _⟩ := h; cases hv) (hS.sub (List.Sublist.refl _)) (fun w hS => (fa55_2 h8)) ?_
            refine f_step 8 (by kernel_rfl) rfl (fun c a a' w h => by obtain ⟨_, v, hv, _⟩ := h; cases hv) (hS.sub (List.Sublist.refl _)) (fun w hS => (yLdB rfl Try.isAgg3 (hS.at _) rfl)) ?_
            refine f_step 9 (by kernel_rfl) rfl (fun c a a' w h => by obtain ⟨_, v, hv, _⟩ := h; cases hv) (hS.sub (List.Sublist.refl _)) (fun w hS => (yIxa rfl hak (rfl.trans (congrArg (Value.int .i64) hki)) Try.runUnderlying24 Try.sizeOf79 (by omega) (by omega))) ?_
            refine f_step 10 (by kernel_rfl) rfl (fun c a a' w h => by obtain ⟨_, v, hv, _⟩ := h; cases hv) (hS.sub (List.Sublist.refl _)) (fun w hS => (yLdA rfl Try.isAgg79 Try.sizeOf79 (hcsk.ext hS.ext) rfl)) ?_
            show wpA _ _ _ _ _ _ _ _ _ _
            refine a_step (i := 11) (is := [12]) (by kernel_rfl) ⟨?_, ?_, trivial⟩
            ·
              refine ⟨_, rfl, ?_⟩
              refine salloc hS Try.zeroValue53 rfl ?_; clear hS; intro b11 w hS
              refine nil ?_
              refine ⟨fun _ => (hS.sub (.cons _ (List.Sublist.refl _))), ?_⟩
              show wpA _ _ _ _ _ _ _ _ _ _
              show wpA _ _ _ _ _ _ _ _ _ _
              refine a_step (i := 12) (is := []) (by kernel_rfl) ⟨?_, trivial⟩
              refine ⟨_, rfl, ?_⟩
              refine salloc hS Try.zeroValue79 rfl ?_; clear hS; intro b12 w hS
              refine nil ?_
              refine ⟨fun _ => (hS.sub (.cons _ (.cons _ (List.Sublist.refl _)))), ?_⟩
              show wpA _ _ _ _ _ _ _ _ _ _
              show wpA _ _ _ _ _ _ _ _ _ _
              refine a_step (i := 13) (is := []) (by kernel_rfl) ⟨?_, trivial⟩
              refine ⟨_, rfl, ?_⟩
              refine sst hS rfl rfl Try.sizeOf53 rfl rfl rfl rfl ?_; clear hS; intro w hS
              refine nil ?_
              refine ⟨fun _ => (hS.sub (.cons _ (.cons _ (List.Sublist.refl _)))), ?_⟩
              show wpA _ _ _ _ _ _ _ _ _ _
              show wpA _ _ _ _ _ _ _ _ _ _
              refine a_step (i := 14) (is := []) (by kernel_rfl) ⟨?_, trivial⟩
              refine ⟨_, rfl, ?_⟩
              refine sst hS rfl rfl Try.sizeOf79 rfl rfl rfl rfl ?_; clear hS; intro w hS
              refine nil ?_
              refine ⟨fun _ => (hS.sub (.cons _ (.cons _ (List.Sublist.refl _)))), ?_⟩
              show wpA _ _ _ _ _ _ _ _ _ _
              refine a_end (by kernel_rfl) ?_
              exact ⟨_, rfl, _, _, h1, h2, h5, h7, h8, h9, rfl, rfl, (by first | exact hS | exact hS.perm (.swap _ _ _)), trivial⟩
            ·
              refine ⟨_, rfl, ?_⟩
              refine salloc hS Try.zeroValue79 rfl ?_; clear hS; intro b12 w hS
              refine nil ?_
              refine ⟨fun _ => (hS.sub (.cons _ (List.Sublist.refl _))), ?_⟩
              show wpA _ _ _ _ _ _ _ _ _ _
              show wpA _ _ _ _ _ _ _ _ _ _
              refine a_step (i := 11) (is := []) (by kernel_rfl) ⟨?_, trivial⟩
              refine ⟨_, rfl, ?_⟩
              refine salloc hS Try.zeroValue53 rfl ?_; clear hS; intro b11 w hS
              refine nil ?_
              refine ⟨fun _ => (hS.sub (.cons _ (.cons _ (List.Sublist.refl _)))), ?_⟩
              show wpA _ _ _ _ _ _ _ _ _ _
              show wpA _ _ _ _ _ _ _ _ _ _
              refine a_step (i := 13) (is := []) (by kernel_rfl) ⟨?_, trivial⟩
              refine ⟨_, rfl, ?_⟩
              refine sst hS rfl rfl Try.sizeOf53 rfl rfl rfl rfl ?_; clear hS; intro w hS
              refine nil ?_
              refine ⟨fun _ => (hS.sub (.cons _ (.cons _ (List.Sublist.refl _)))), ?_⟩
              show wpA _ _ _ _ _ _ _ _ _ _
              show wpA _ _ _ _ _ _ _ _ _ _
              refine a_step (i := 14) (is := []) (by kernel_rfl) ⟨?_, trivial⟩
              refine ⟨_, rfl, ?_⟩
              refine sst hS rfl rfl Try.sizeOf79 rfl rfl rfl rfl ?_; clear hS; intro w hS
              refine nil ?_
              refine ⟨fun _ => (hS.sub (.cons _ (.cons _ (List.Sublist.refl _)))), ?_⟩
              show wpA _ _ _ _ _ _ _ _ _ _
              refine a_end (by kernel_rfl) ?_
              exact ⟨_, rfl, _, _, h1, h2, h5, h7, h8, h9, rfl, rfl, (by first | exact hS | exact hS.perm (.swap _ _ _)), trivial⟩
          ·
            clear hS; rintro f w ⟨p11, p12, h1, h2, h5, h7, h8, h9, h11, h12, hS, -⟩
            refine seq ?_
            refine seq ?_
            refine region_draw mixed (by kernel_rfl) hS ?_
            refine qv (fun w hS => (fa53_2 h11)) ?_
            refine qv (fun w hS => (yLdB rfl Try.isAgg3 (hS.at _) rfl)) ?_
            refine qv (fun w hS => (yNeq rfl rfl)) ?_
            refine qv (fun w hS => (yMove rfl)) ?_
            refine qg rfl rfl rfl (fun g w hS => (fa53_3 h11)) (fun v110 g110 => ?_)
            refine qg rfl rfl rfl (fun g w hS => (yLdB (g110.1 g) Try.isAgg3 (hS.at _) rfl)) (fun v111 g111 => ?_)
            refine qg rfl rfl rfl (fun g w hS => (fa55_2 h8)) (fun v112 g112 => ?_)
            refine qg rfl rfl rfl (fun g w hS => (yLdB (g112.1 g) Try.isAgg3 (hS.at _) rfl)) (fun v113 g113 => ?_)
            refine qg rfl rfl rfl (fun g w hS => (yNeq (g111.1 g) (g113.1 g))) (fun v114 g114 => ?_)
            refine qv (fun w hS => (yOr rfl rfl (fun hB => (g114.1 hB)))) ?_
            refine qv (fun w hS => (yMove rfl)) ?_
            refine qg rfl rfl rfl (fun g w hS => (fa53_5 h11)) (fun v117 g117 => ?_)
            refine qg rfl rfl rfl (fun g w hS => (yLdB (g117.1 g) Try.isAgg3 (hS.at _) rfl)) (fun v118 g118 => ?_)
            refine qg rfl rfl rfl (fun g w hS => (fa55_3 h8)) (fun v119 g119 => ?_)
            refine qg rfl rfl rfl (fun g w hS => (yLdB (g119.1 g) Try.isAgg3 (hS.at _) rfl)) (fun v120 g120 => ?_)
            refine qg rfl rfl rfl (fun g w hS => (yNeq (g118.1 g) (g120.1 g))) (fun v121 g121 => ?_)
            refine qv (fun w hS => (yOr rfl rfl (fun hB => (g121.1 hB)))) ?_
            refine qv (fun w hS => (yMove rfl)) ?_
            refine qg rfl rfl rfl (fun g w hS => (yMove h1)) (fun v124 g124 => ?_)
            refine qg rfl rfl rfl (fun g w hS => (yMove h9)) (fun v125 g125 => ?_)
            refine qg rfl rfl rfl (fun g w hS => (yIxa (g124.1 g) hat ((g125.1 g).trans (congrArg (Value.int .i64) hai)) Try.runUnderlying37 Try.sizeOf53 (by omega) (by omega))) (fun v126 g126 => ?_)
            refine qg rfl rfl rfl (fun g w hS => (fa53_0 (g126.1 g))) (fun v127 g127 => ?_)
            refine qg rfl rfl rfl (fun g w hS => (yLd (g127.1 g) Try.isAgg3 ((hcst.ext hS.ext).at (j := 0) rfl))) (fun v128 g128 => ?_)
            refine qg rfl rfl rfl (fun g w hS => (fa55_4 h8)) (fun v129 g129 => ?_)
            refine qg rfl rfl rfl (fun g w hS => (yLdB (g129.1 g) Try.isAgg3 (hS.at _) rfl)) (fun v130 g130 => ?_)
            refine qg rfl rfl rfl (fun g w hS => (yNeq (g128.1 g) (g130.1 g))) (fun v131 g131 => ?_)
            refine qv (fun w hS => (yOr rfl rfl (fun hB => (g131.1 hB)))) ?_
            refine qv (fun w hS => (yMove rfl)) ?_
            refine qg rfl rfl rfl (fun g w hS => (yLdBA h2 Try.isAgg26 Try.sizeOf26 (hS.at _) rfl rfl)) (fun v134 g134 => ?_)
            refine qg rfl rfl rfl (fun g w hS => (fa53_1 h11)) (fun v135 g135 => ?_)
            refine qg rfl rfl rfl (fun g w hS => (yLdB (g135.1 g) Try.isAgg3 (hS.at _) rfl)) (fun v136 g136 => ?_)
            refine qg rfl rfl rfl (fun g w hS => (fa53_0 h11)) (fun v137 g137 => ?_)
            refine qg rfl rfl rfl (fun g w hS => (yLdB (g137.1 g) Try.isAgg3 (hS.at _) rfl)) (fun v138 g138 => ?_)
            refine qg rfl rfl rfl (fun g w hS => (fa79_1 h12)) (fun v139 g139 => ?_)
            refine qg rfl rfl rfl (fun g w hS => (yLdB (g139.1 g) Try.isAgg3 (hS.at _) rfl)) (fun v140 g140 => ?_)
            refine qgc rfl rfl rfl Try.call31 (fun g => (.cons (g134.1 g) (.cons (g136.1 g) (.cons (g138.1 g) (.cons (g140.1 g) .nil))))) (fun g w hS => (c_fits (h.ext hS.ext))) (fun v141 g141 => ?_)
            refine qg rfl rfl rfl (fun g w hS => (yNot (g141.1 g))) (fun v142 g142 => ?_)
            refine qv (fun w hS => (yOr rfl rfl (fun hB => (g142.1 hB)))) ?_
            refine qv (fun w hS => (yMove rfl)) ?_
            refine qg rfl rfl rfl (fun g w hS => (yLdBA h2 Try.isAgg26 Try.sizeOf26 (hS.at _) rfl rfl)) (fun v145 g145 => ?_)
            refine qg rfl rfl rfl (fun g w hS => (fa53_1 h11)) (fun v146 g146 => ?_)
            refine qg rfl rfl rfl (fun g w hS => (yLdB (g146.1 g) Try.isAgg3 (hS.at _) rfl)) (fun v147 g147 => ?_)
            refine qg rfl rfl rfl (fun g w hS => (fa55_4 h8)) (fun v148 g148 => ?_)
            refine qg rfl rfl rfl (fun g w hS => (yLdB (g148.1 g) Try.isAgg3 (hS.at _) rfl)) (fun v149 g149 => ?_)
            refine qgc rfl rfl rfl Try.call31 (fun g => (.cons (g145.1 g) (.cons (g147.1 g) (.cons (g149.1 g) (.cons rfl .nil))))) (fun g w hS => (c_fits (h.ext hS.ext))) (fun v150 g150 => ?_)
            refine qg rfl rfl rfl (fun g w hS => (yNot (g150.1 g))) (fun v151 g151 => ?_)
            refine qv (fun w hS => (yOr rfl rfl (fun hB => (g151.1 hB)))) ?_
            clear hS; refine qnil (fun w hS => ?_)
            show Code.wp _ _ _ _ _
            refine cond rfl (fun c152 => ?_) (fun c152 => ?_)
            ·
              simp only [Bool.and_eq_true, Bool.or_eq_true, Bool.and_eq_false_iff, Bool.or_eq_false_iff, decide_eq_true_eq, decide_eq_false_iff_not, Bool.not_eq_true, Bool.not_eq_false, Bool.not_not, Bool.not_eq_eq_eq_not, Bool.not_true, Bool.not_false, Bool.false_eq_true, Bool.true_eq_false, ne_eq, Decidable.not_not, not_false_eq_true, not_true_eq_false] at c152
              exfalso
              rcases c152 with ((((h1 | h1) | h1) | h1) | h1) | h1
              · exact h1 hT.dw
              · exact h1 hT.what
              · exact h1 hT.subj
              · exact h1 hT.tm
              · rw [hT.f1] at h1; cases h1
              · rw [hT.f2] at h1; cases h1
            ·
              simp only [Bool.and_eq_true, Bool.or_eq_true, Bool.and_eq_false_iff, Bool.or_eq_false_iff, decide_eq_true_eq, decide_eq_false_iff_not, Bool.not_eq_true, Bool.not_eq_false, Bool.not_not, Bool.not_eq_eq_eq_not, Bool.not_true, Bool.not_false, Bool.false_eq_true, Bool.true_eq_false, ne_eq, Decidable.not_not, not_false_eq_true, not_true_eq_false] at c152
              refine skip ?_
              show Code.wp _ _ _ _ _
              refine seq ?_
              refine region_mix (fun w => w.heap[b2]? = some (.cells ([.slice a c.ops.length cap, .slice ak c.keys.length ck, .slice an c.kinds.length cn] : List Value).toArray 26 (0, 0))) 10 mixed hS ?_
              clear hS; intro w hS
              refine f_step 0 (by kernel_rfl) rfl (fun c a a' w h => by obtain ⟨_, v, hv, _⟩ := h; cases hv) (hS.at b2) (fun w hS => (yLdBA h2 Try.isAgg26 Try.sizeOf26 hS rfl rfl)) ?_
              refine f_step 1 (by kernel_rfl) rfl (fun c a a' w h => by obtain ⟨_, v, hv, _⟩ := h; cases hv) (hS.at b2) (fun w hS => (yMove h1)) ?_
              refine f_step 2 (by kernel_rfl) rfl (fun c a a' w h => by obtain ⟨_, v, hv, _⟩ := h; cases hv) (hS.at b2) (fun w hS => (yMove h9)) ?_
              refine f_step 3 (by kernel_rfl) rfl (fun c a a' w h => by obtain ⟨_, v, hv, _⟩ := h; cases hv) (hS.at b2) (fun w hS => (yTo rfl (rfl.trans (congrArg (Value.int .i64) hai)) Try.underlying37 Try.sizeOf53 (by omega))) ?_
              show wpA _ _ _ _ _ _ _ _ _ _
              refine a_step (i := 4) (is := []) (by kernel_rfl) ⟨?_, trivial⟩
              refine ⟨_, rfl, ?_⟩
              refine scall Try.call30 (.cons rfl (.cons rfl .nil)) (c_Keys (h.ext hS.ext) ((ha.take (i := ai) (by omega)).ext RAct.stays hS.ext)) ?_
              rintro _ w ⟨kv2, rfl, hM⟩; rw [playE_take hE]; rw [playK_take hE (k := ai) (by omega), (keysN_ok hE (k := ai) (by omega)).1] at hM; replace hS := hS.call1 hM; clear hM
              obtain ⟨ac, cc, rfl⟩ := row_shape (hS.row kv2)
              refine nil ?_
              refine ⟨fun _ => (hS.at b2), ?_⟩
              show wpA _ _ _ _ _ _ _ _ _ _
              refine f_step 5 (by kernel_rfl) rfl (fun c a a' w h => by obtain ⟨_, v, hv, _⟩ := h; cases hv) (hS.at b2) (fun w hS => (yMove rfl)) ?_
              refine f_step 6 (by kernel_rfl) rfl (fun c a a' w h => by obtain ⟨_, v, hv, _⟩ := h; cases hv) (hS.at b2) (fun w hS => (yExt rfl rfl)) ?_
              refine f_step 7 (by kernel_rfl) rfl (fun c a a' w h => by obtain ⟨_, v, hv, _⟩ := h; cases hv) (hS.at b2) (fun w hS => (yExt rfl rfl)) ?_
              refine f_step 8 (by kernel_rfl) rfl (fun c a a' w h => by obtain ⟨_, v, hv, _⟩ := h; cases hv) (hS.at b2) (fun w hS => (yAsg rfl)) ?_
              refine f_step 9 (by kernel_rfl) rfl (fun c a a' w h => by obtain ⟨_, v, hv, _⟩ := h; cases hv) (hS.at b2) (fun w hS => (yAsg rfl)) ?_
              refine a_end (by kernel_rfl) ?_
              show Code.wp _ _ _ _ _
              refine seq ?_
              refine seq ?_
              refine region ?_
              refine sv (yMove rfl) ?_
              refine sv (yNeq rfl rfl) ?_
              refine sv (yMove rfl) ?_
              refine sg rfl rfl rfl (fun g => (yMove rfl)) (fun v164 g164 => ?_)
              refine sg rfl rfl rfl (fun g => (yLen (g164.1 g) Try.underlying30)) (fun v165 g165 => ?_)
              refine sg rfl rfl rfl (fun g => (fa26_1 h2)) (fun v166 g166 => ?_)
              refine sg rfl rfl rfl (fun g => (yLdB (g166.1 g) Try.isAgg23 (hS.at _) rfl)) (fun v167 g167 => ?_)
              refine sg rfl rfl rfl (fun g => (yLen (g167.1 g) Try.underlying23)) (fun v168 g168 => ?_)
              refine sg rfl rfl rfl (fun g => (yNeq (g165.1 g) (g168.1 g))) (fun v169 g169 => ?_)
              refine sv (yOr rfl rfl (fun hB => (g169.1 hB))) ?_
              refine sv (yMove rfl) ?_
              refine sg rfl rfl rfl (fun g => (fa79_2 h12)) (fun v172 g172 => ?_)
              refine sg rfl rfl rfl (fun g => (yLdB (g172.1 g) Try.isAgg3 (hS.at _) rfl)) (fun v173 g173 => ?_)
              refine sg rfl rfl rfl (fun g => (yEql (g173.1 g) rfl)) (fun v174 g174 => ?_)
              refine sg rfl rfl rfl (fun g => (fa55_1 h8)) (fun v175 g175 => ?_)
              refine sg rfl rfl rfl (fun g => (yLdB (g175.1 g) Try.isAgg3 (hS.at _) rfl)) (fun v176 g176 => ?_)
              refine sg rfl rfl rfl (fun g => (yEql (g176.1 g) rfl)) (fun v177 g177 => ?_)
              refine sg rfl rfl rfl (fun g => (yBNe (g174.1 g) (g177.1 g) Try.underlying4)) (fun v178 g178 => ?_)
              refine sv (yOr rfl rfl (fun hB => (g178.1 hB))) ?_
              refine nil ?_
              show Code.wp _ _ _ _ _
              refine cond rfl (fun c179 => ?_) (fun c179 => ?_)
              ·
                skip
                exfalso
                have h1 : decide (xx.second = 0) = decide (o.conf = -1) := decide_eq_decide.2 hT.one
                simp [h1] at c179
              ·
                skip
                refine skip ?_
                show Code.wp _ _ _ _ _
                refine seq ?_
                refine region ?_
                refine sv (fa53_1 h11) ?_
                refine sv (yLdB rfl Try.isAgg3 (hS.at _) rfl) ?_
                refine sv (yAsg rfl) ?_
                refine nil ?_
                show Code.wp _ _ _ _ _
                refine seqJ (n := 294) (fun f w => f 1 = .slice aa acts.length ca ∧ f 2 = .pointer (some ⟨b2, 0, none⟩) ∧ f 5 = .slice (some ⟨go, 0, none⟩) (playO c acts).length co ∧ f 7 = .int .i64 (i : Int) ∧ f 11 = .pointer (some ⟨p11, 0, none⟩) ∧ f 12 = .pointer (some ⟨p12, 0, none⟩) ∧ f 13 = .slice ac c.keys.length cc ∧ f 15 = .int .i64 (if 0 < xx.second then zs.who else gg.who) ∧ StX [] w0 w [rowI (.slice ac c.keys.length cc) 3 1 c.keys.length ((keysN c acts ai).flatMap Bx.encI), blk p11 (actC gg) 53, blk p12 [.string xx.name, .int .i64 xx.grade, .int .i64 xx.second, .int .i64 xx.within, .slice axk xx.keys.length cxk, .bool xx.split] 79, blk b8 (ordC o) 55, rowI (.slice (some ⟨go, 0, none⟩) (playO c acts).length co) 55 5 (playO c acts).length ((playO c acts).flatMap ordC), blk b2 [.slice a c.ops.length cap, .slice ak c.keys.length ck, .slice an c.kinds.length cn] 26] ∧ True) ?_ ?_
                ·
                  refine seq ?_
                  refine region ?_
                  refine sv (fa79_2 h12) ?_
                  refine sv (yLdB rfl Try.isAgg3 (hS.at _) rfl) ?_
                  refine sv (yGtr rfl rfl) ?_
                  refine nil ?_
                  show Code.wp _ _ _ _ _
                  refine cond rfl (fun c184 => ?_) (fun c184 => ?_)
                  ·
                    simp only [Bool.and_eq_true, Bool.or_eq_true, Bool.and_eq_false_iff, Bool.or_eq_false_iff, decide_eq_true_eq, decide_eq_false_iff_not, Bool.not_eq_true, Bool.not_eq_false, Bool.not_not, Bool.not_eq_eq_eq_not, Bool.not_true, Bool.not_false, Bool.false_eq_true, Bool.true_eq_false, ne_eq, Decidable.not_not, not_false_eq_true, not_true_eq_false] at c184
                    obtain ⟨t1, t2, t3, t4, t5⟩ := hT.two c184
                    refine seq ?_
                    refine region ?_
                    refine sv (yMove h1) ?_
                    refine sv (yMove h9) ?_
                    refine sv (yIxa rfl hat (rfl.trans (congrArg (Value.int .i64) hai)) Try.runUnderlying37 Try.sizeOf53 (by omega) (by omega)) ?_
                    refine sv (yLdA rfl Try.isAgg53 Try.sizeOf53 (hcst.ext hS.ext) rfl) ?_
                    refine salloc hS Try.zeroValue53 rfl ?_; clear hS; intro b16 w hS
                    refine sst hS rfl rfl Try.sizeOf53 rfl rfl rfl rfl ?_; clear hS; intro w hS
                    refine nil ?_
                    show Code.wp _ _ _ _ _
                    refine seq ?_
                    refine region ?_
                    refine sv (fa53_1 rfl) ?_
                    refine sv (yLdB rfl Try.isAgg3 (hS.at _) rfl) ?_
                    refine sv (yAsg rfl) ?_
                    refine nil ?_
                    show Code.wp _ _ _ _ _
                    refine seq ?_
                    refine region ?_
                    refine sv (fa53_2 rfl) ?_
                    refine sv (yLdB rfl Try.isAgg3 (hS.at _) rfl) ?_
                    refine sv (yNeq rfl rfl) ?_
                    refine sv (yMove rfl) ?_
                    refine sg rfl rfl rfl (fun g => (fa53_3 rfl)) (fun v195 g195 => ?_)
                    refine sg rfl rfl rfl (fun g => (yLdB (g195.1 g) Try.isAgg3 (hS.at _) rfl)) (fun v196 g196 => ?_)
                    refine sg rfl rfl rfl (fun g => (fa55_0 h8)) (fun v197 g197 => ?_)
                    refine sg rfl rfl rfl (fun g => (yLdB (g197.1 g) Try.isAgg3 (hS.at _) rfl)) (fun v198 g198 => ?_)
                    refine sg rfl rfl rfl (fun g => (yNeq (g196.1 g) (g198.1 g))) (fun v199 g199 => ?_)
                    refine sv (yOr rfl rfl (fun hB => (g199.1 hB))) ?_
                    refine sv (yMove rfl) ?_
                    refine sg rfl rfl rfl (fun g => (yMove rfl)) (fun v202 g202 => ?_)
                    refine sg rfl rfl rfl (fun g => (fa53_1 h11)) (fun v203 g203 => ?_)
                    refine sg rfl rfl rfl (fun g => (yLdB (g203.1 g) Try.isAgg3 (hS.at _) rfl)) (fun v204 g204 => ?_)
                    refine sg rfl rfl rfl (fun g => (yEql (g202.1 g) (g204.1 g))) (fun v205 g205 => ?_)
                    refine sv (yOr rfl rfl (fun hB => (g205.1 hB))) ?_
                    refine sv (yMove rfl) ?_
                    refine sg rfl rfl rfl (fun g => (yLdBA h2 Try.isAgg26 Try.sizeOf26 (hS.at _) rfl rfl)) (fun v208 g208 => ?_)
                    refine sg rfl rfl rfl (fun g => (yMove rfl)) (fun v209 g209 => ?_)
                    refine sg rfl rfl rfl (fun g => (fa55_4 h8)) (fun v210 g210 => ?_)
                    refine sg rfl rfl rfl (fun g => (yLdB (g210.1 g) Try.isAgg3 (hS.at _) rfl)) (fun v211 g211 => ?_)
                    refine sg rfl rfl rfl (fun g => (fa79_2 h12)) (fun v212 g212 => ?_)
                    refine sg rfl rfl rfl (fun g => (yLdB (g212.1 g) Try.isAgg3 (hS.at _) rfl)) (fun v213 g213 => ?_)
                    refine sgc hS rfl rfl rfl Try.call31 (fun g => (.cons (g208.1 g) (.cons (g209.1 g) (.cons (g211.1 g) (.cons (g213.1 g) .nil))))) (fun g => (c_fits (h.ext hS.ext))) ?_; clear hS; intro v214 w hS g214
                    refine sg rfl rfl rfl (fun g => (yNot (g214.1 g))) (fun v215 g215 => ?_)
                    refine sv (yOr rfl rfl (fun hB => (g215.1 hB))) ?_
                    refine sv (yMove rfl) ?_
                    refine sg rfl rfl rfl (fun g => (fa55_4 h8)) (fun v218 g218 => ?_)
                    refine sg rfl rfl rfl (fun g => (yLdB (g218.1 g) Try.isAgg3 (hS.at _) rfl)) (fun v219 g219 => ?_)
                    refine sg rfl rfl rfl (fun g => (fa53_0 h11)) (fun v220 g220 => ?_)
                    refine sg rfl rfl rfl (fun g => (yLdB (g220.1 g) Try.isAgg3 (hS.at _) rfl)) (fun v221 g221 => ?_)
                    refine sg rfl rfl rfl (fun g => (ySub (g219.1 g) (g221.1 g) ⟨by omega, by omega⟩)) (fun v222 g222 => ?_)
                    refine sg rfl rfl rfl (fun g => (fa79_3 h12)) (fun v223 g223 => ?_)
                    refine sg rfl rfl rfl (fun g => (yLdB (g223.1 g) Try.isAgg3 (hS.at _) rfl)) (fun v224 g224 => ?_)
                    refine sg rfl rfl rfl (fun g => (yGtr (g222.1 g) (g224.1 g))) (fun v225 g225 => ?_)
                    refine sv (yOr rfl rfl (fun hB => (g225.1 hB))) ?_
                    refine nil ?_
                    show Code.wp _ _ _ _ _
                    refine cond rfl (fun c226 => ?_) (fun c226 => ?_)
                    ·
                      simp only [Bool.and_eq_true, Bool.or_eq_true, Bool.and_eq_false_iff, Bool.or_eq_false_iff, decide_eq_true_eq, decide_eq_false_iff_not, Bool.not_eq_true, Bool.not_eq_false, Bool.not_not, Bool.not_eq_eq_eq_not, Bool.not_true, Bool.not_false, Bool.false_eq_true, Bool.true_eq_false, ne_eq, Decidable.not_not, not_false_eq_true, not_true_eq_false] at c226
                      exfalso
                      rcases c226 with (((h1 | h1) | h1) | h1) | h1
                      · exact h1 t1
                      · exact h1 t2
                      · exact t3 h1
                      · rw [t4] at h1; cases h1
                      · omega
                    ·
                      simp only [Bool.and_eq_true, Bool.or_eq_true, Bool.and_eq_false_iff, Bool.or_eq_false_iff, decide_eq_true_eq, decide_eq_false_iff_not, Bool.not_eq_true, Bool.not_eq_false, Bool.not_not, Bool.not_eq_eq_eq_not, Bool.not_true, Bool.not_false, Bool.false_eq_true, Bool.true_eq_false, ne_eq, Decidable.not_not, not_false_eq_true, not_true_eq_false] at c226
                      refine skip ?_
                      exact ⟨_, rfl, h1, h2, h5, h7, h11, h12, rfl, rfl.trans (congrArg (Value.int .i64) (if_pos c184).symm), (hS.sub (.cons _ (List.Sublist.refl _))), trivial⟩
                  ·
                    simp only [Bool.and_eq_true, Bool.or_eq_true, Bool.and_eq_false_iff, Bool.or_eq_false_iff, decide_eq_true_eq, decide_eq_false_iff_not, Bool.not_eq_true, Bool.not_eq_false, Bool.not_not, Bool.not_eq_eq_eq_not, Bool.not_true, Bool.not_false, Bool.false_eq_true, Bool.true_eq_false, ne_eq, Decidable.not_not, not_false_eq_true, not_true_eq_false] at c184
                    refine skip ?_
                    exact ⟨_, rfl, h1, h2, h5, h7, h11, h12, rfl, rfl.trans (congrArg (Value.int .i64) (if_neg (by omega)).symm), hS, trivial⟩
                ·
                  clear hS; rintro f w ⟨h1, h2, h5, h7, h11, h12, h13, h15, hS, -⟩
                  refine seq ?_
                  refine region ?_
                  refine sv (yAsg rfl) ?_
                  refine sv (yAsg rfl) ?_
                  refine nil ?_
                  show Code.wp _ _ _ _ _
                  refine seq ?_
                  refine seq ?_
                  refine region ?_
                  refine sv (yAsg rfl) ?_
                  refine nil ?_
                  show Code.wp _ _ _ _ _
                  refine block ?_
                  refine loop (fun f w zz => ∃ (q : Nat), f 1 = .slice aa acts.length ca ∧ f 2 = .pointer (some ⟨b2, 0, none⟩) ∧ f 5 = .slice (some ⟨go, 0, none⟩) (playO c acts).length co ∧ f 7 = .int .i64 (i : Int) ∧ f 11 = .pointer (some ⟨p11, 0, none⟩) ∧ f 12 = .pointer (some ⟨p12, 0, none⟩) ∧ f 13 = .slice ac c.keys.length cc ∧ f 15 = .int .i64 (if 0 < xx.second then zs.who else gg.who) ∧ f 17 = .bool (anyH (keysN c acts ai) gg.who (xx.keys.take q)) ∧ f 18 = .bool (anyH (keysN c acts ai) (if 0 < xx.second then zs.who else gg.who) (xx.keys.take q)) ∧ f 19 = .int .i64 (q : Int) ∧ StX [] w0 w [rowI (.slice ac c.keys.length cc) 3 1 c.keys.length ((keysN c acts ai).flatMap Bx.encI), blk p11 (actC gg) 53, blk p12 [.string xx.name, .int .i64 xx.grade, .int .i64 xx.second, .int .i64 xx.within, .slice axk xx.keys.length cxk, .bool xx.split] 79, blk b8 (ordC o) 55, rowI (.slice (some ⟨go, 0, none⟩) (playO c acts).length co) 55 5 (playO c acts).length ((playO c acts).flatMap ordC), blk b2 [.slice a c.ops.length cap, .slice ak c.keys.length ck, .slice an c.kinds.length cn] 26] ∧ (q ≤ xx.keys.length) ∧ zz = xx.keys.length - q) _ ⟨_, rfl, 0, h1, h2, h5, h7, h11, h12, h13, h15, rfl, rfl, rfl, hS, (Nat.zero_le _), rfl⟩ ?_
                  clear hS
                  rintro f w _ ⟨q, h1, h2, h5, h7, h11, h12, h13, h15, h17, h18, h19, hS, hq, rfl⟩
                  refine seq ?_
                  refine seq ?_
                  refine region ?_
                  refine sv (yMove h19) ?_
                  refine sv (fa79_4 h12) ?_
                  refine sv (yLdB rfl Try.isAgg30 (hS.at _) rfl) ?_
                  refine sv (yLen rfl Try.underlying30) ?_
                  refine sv (yLss rfl rfl) ?_
                  refine nil ?_
                  show Code.wp _ _ _ _ _
                  refine cond rfl (fun c231 => ?_) (fun c231 => ?_)
                  ·
                    simp only [Bool.and_eq_true, Bool.or_eq_true, Bool.and_eq_false_iff, Bool.or_eq_false_iff, decide_eq_true_eq, decide_eq_false_iff_not, Bool.not_eq_true, Bool.not_eq_false, Bool.not_not, Bool.not_eq_eq_eq_not, Bool.not_true, Bool.not_false, Bool.false_eq_true, Bool.true_eq_false, ne_eq, Decidable.not_not, not_false_eq_true, not_true_eq_false] at c231
                    refine skip ?_
                    show Code.wp _ _ _ _ _
                    refine seq ?_
                    refine block ?_
                    refine seq ?_
                    refine region ?_
                    obtain ⟨u, hxu, hd⟩ := drop_of (l := xx.keys) (k := q) (by omega)
                    obtain ⟨b, o, cs, ha, hlen, hcs, hR⟩ := helx (q) (by omega)
                    obtain rfl : u = xx.keys[q] := (List.getElem?_eq_some_iff.1 hxu).2.symm
                    generalize xx.keys[q] = u at hxu hd hR
                    obtain ⟨rfl, hui⟩ := hR
                    refine sv (fa79_4 h12) ?_
                    refine sv (yLdB rfl Try.isAgg30 (hS.at _) rfl) ?_
                    refine sv (yMove h19) ?_
                    refine sv (yIxa rfl ha rfl Try.runUnderlying30 Try.sizeOf3 (by omega) (by omega)) ?_
                    refine sv (yLd rfl Try.isAgg3 ((hcs.ext hS.ext).one)) ?_
                    refine sv (yAsg rfl) ?_
                    refine nil ?_
                    show Code.wp _ _ _ _ _
                    refine seq ?_
                    refine seq ?_
                    refine region_draw mixed (by kernel_rfl) hS ?_
                    have hku := hT.keys u (List.mem_of_getElem? hxu)
                    obtain ⟨uu, huu⟩ := Int.eq_ofNat_of_zero_le hku.1.1
                    have hkN := (keysN_ok hE (show ai ≤ acts.length by omega)).1
                    obtain ⟨y, hy, -⟩ := drop_of (l := keysN c acts ai) (k := uu) (by omega)
                    have hyv := holdAt_nat huu hy
                    obtain ⟨gk, rfl, -⟩ := row_get (hS.row (.slice ac c.keys.length cc)) (by omega)
                    refine qv (fun w hS => (yMove rfl)) ?_
                    refine qv (fun w hS => (yLss rfl rfl)) ?_
                    refine qv (fun w hS => (yMove rfl)) ?_
                    refine qg rfl rfl rfl (fun g w hS => (yMove rfl)) (fun v242 g242 => ?_)
                    refine qg rfl rfl rfl (fun g w hS => (yMove h13)) (fun v243 g243 => ?_)
                    refine qg rfl rfl rfl (fun g w hS => (yLen (g243.1 g) Try.underlying30)) (fun v244 g244 => ?_)
                    refine qg rfl rfl rfl (fun g w hS => (yGeq (g242.1 g) (g244.1 g))) (fun v245 g245 => ?_)
                    refine qv (fun w hS => (yOr rfl rfl (fun hB => (g245.1 hB)))) ?_
                    refine qv (fun w hS => (yMove rfl)) ?_
                    refine qg rfl rfl rfl (fun g w hS => (yMove h13)) (fun v248 g248 => ?_)
                    refine qg rfl rfl rfl (fun g w hS => (yMove rfl)) (fun v249 g249 => ?_)
                    refine qg rfl rfl rfl (fun g w hS => (yIx0 (g248.1 g) ((g249.1 g).trans (congrArg (Value.int .i64) huu)) Try.runUnderlying30 Try.sizeOf3 (by omega))) (fun v250 g250 => ?_)
                    refine qg rfl rfl rfl (fun g w hS => (yLd (g250.1 g) Try.isAgg3 ((flat_cells0 (enc := Bx.encI) encI_len (row_at (hS.row (.slice (some ⟨gk, 0, none⟩) c.keys.length cc)) rfl (by omega)) hy).one))) (fun v251 g251 => ?_)
                    refine qg rfl rfl rfl (fun g w hS => (fa53_1 h11)) (fun v252 g252 => ?_)
                    refine qg rfl rfl rfl (fun g w hS => (yLdB (g252.1 g) Try.isAgg3 (hS.at _) rfl)) (fun v253 g253 => ?_)
                    refine qg rfl rfl rfl (fun g w hS => (yNeq (g251.1 g) (g253.1 g))) (fun v254 g254 => ?_)
                    refine qg rfl rfl rfl (fun g w hS => (yMove (g254.1 g))) (fun v255 g255 => ?_)
                    refine qgg rfl rfl g255 (fun g w hS => (yMove h13)) (fun v256 g256 => ?_)
                    refine qgg rfl rfl g255 (fun g w hS => (yMove rfl)) (fun v257 g257 => ?_)
                    refine qgg rfl rfl g255 (fun g w hS => (yIx0 (g256.1 g) ((g257.1 g).trans (congrArg (Value.int .i64) huu)) Try.runUnderlying30 Try.sizeOf3 (by omega))) (fun v258 g258 => ?_)
                    refine qgg rfl rfl g255 (fun g w hS => (yLd (g258.1 g) Try.isAgg3 ((flat_cells0 (enc := Bx.encI) encI_len (row_at (hS.row (.slice (some ⟨gk, 0, none⟩) c.keys.length cc)) rfl (by omega)) hy).one))) (fun v259 g259 => ?_)
                    refine qgg rfl rfl g255 (fun g w hS => (yMove h15)) (fun v260 g260 => ?_)
                    refine qgg rfl rfl g255 (fun g w hS => (yNeq (g259.1 g) (g260.1 g))) (fun v261 g261 => ?_)
                    refine qg rfl rfl rfl (fun g w hS => (yAnd (g255.1 g) (fun hB => (g261.1 ⟨g, hB⟩)) rfl)) (fun v262 g262 => ?_)
                    refine qv (fun w hS => (yOr rfl rfl (fun hB => (g262.1 hB)))) ?_
                    clear hS; refine qnil (fun w hS => ?_)
                    show Code.wp _ _ _ _ _
                    refine cond rfl (fun c263 => ?_) (fun c263 => ?_)
                    ·
                      simp only [Bool.and_eq_true, Bool.or_eq_true, Bool.and_eq_false_iff, Bool.or_eq_false_iff, decide_eq_true_eq, decide_eq_false_iff_not, Bool.not_eq_true, Bool.not_eq_false, Bool.not_not, Bool.not_eq_eq_eq_not, Bool.not_true, Bool.not_false, Bool.false_eq_true, Bool.true_eq_false, ne_eq, Decidable.not_not, not_false_eq_true, not_true_eq_false] at c263
                      exfalso
                      rw [hyv] at hku
                      rcases c263 with (h1 | h1) | h1
                      · omega
                      · omega
                      · rcases hku.2 with e | e
                        · exact h1.1 e
                        · exact h1.2 e
                    ·
                      simp only [Bool.and_eq_true, Bool.or_eq_true, Bool.and_eq_false_iff, Bool.or_eq_false_iff, decide_eq_true_eq, decide_eq_false_iff_not, Bool.not_eq_true, Bool.not_eq_false, Bool.not_not, Bool.not_eq_eq_eq_not, Bool.not_true, Bool.not_false, Bool.false_eq_true, Bool.true_eq_false, ne_eq, Decidable.not_not, not_false_eq_true, not_true_eq_false] at c263
                      refine skip ?_
                      show Code.wp _ _ _ _ _
                      refine region_draw mixed (by kernel_rfl) hS ?_
                      refine qv (fun w hS => (yMove h17)) ?_
                      refine qv (fun w hS => (yMove rfl)) ?_
                      refine qg rfl rfl rfl (fun g w hS => (yMove h13)) (fun v266 g266 => ?_)
                      refine qg rfl rfl rfl (fun g w hS => (yMove rfl)) (fun v267 g267 => ?_)
                      refine qg rfl rfl rfl (fun g w hS => (yIx0 (g266.1 g) ((g267.1 g).trans (congrArg (Value.int .i64) huu)) Try.runUnderlying30 Try.sizeOf3 (by omega))) (fun v268 g268 => ?_)
                      refine qg rfl rfl rfl (fun g w hS => (yLd (g268.1 g) Try.isAgg3 ((flat_cells0 (enc := Bx.encI) encI_len (row_at (hS.row (.slice (some ⟨gk, 0, none⟩) c.keys.length cc)) rfl (by omega)) hy).one))) (fun v269 g269 => ?_)
                      refine qg rfl rfl rfl (fun g w hS => (fa53_1 h11)) (fun v270 g270 => ?_)
                      refine qg rfl rfl rfl (fun g w hS => (yLdB (g270.1 g) Try.isAgg3 (hS.at _) rfl)) (fun v271 g271 => ?_)
                      refine qg rfl rfl rfl (fun g w hS => (yEql (g269.1 g) (g271.1 g))) (fun v272 g272 => ?_)
                      refine qv (fun w hS => (yOr rfl rfl (fun hB => (g272.1 hB)))) ?_
                      refine qv (fun w hS => (yMove h18)) ?_
                      refine qv (fun w hS => (yMove rfl)) ?_
                      refine qg rfl rfl rfl (fun g w hS => (yMove h13)) (fun v276 g276 => ?_)
                      refine qg rfl rfl rfl (fun g w hS => (yMove rfl)) (fun v277 g277 => ?_)
                      refine qg rfl rfl rfl (fun g w hS => (yIx0 (g276.1 g) ((g277.1 g).trans (congrArg (Value.int .i64) huu)) Try.runUnderlying30 Try.sizeOf3 (by omega))) (fun v278 g278 => ?_)
                      refine qg rfl rfl rfl (fun g w hS => (yLd (g278.1 g) Try.isAgg3 ((flat_cells0 (enc := Bx.encI) encI_len (row_at (hS.row (.slice (some ⟨gk, 0, none⟩) c.keys.length cc)) rfl (by omega)) hy).one))) (fun v279 g279 => ?_)
                      refine qg rfl rfl rfl (fun g w hS => (yMove h15)) (fun v280 g280 => ?_)
                      refine qg rfl rfl rfl (fun g w hS => (yEql (g279.1 g) (g280.1 g))) (fun v281 g281 => ?_)
                      refine qv (fun w hS => (yOr rfl rfl (fun hB => (g281.1 hB)))) ?_
                      refine qv (fun w hS => (yAsg rfl)) ?_
                      refine qv (fun w hS => (yAsg rfl)) ?_
                      clear hS; refine qnil (fun w hS => ?_)
                      show Code.wp _ _ _ _ _
                      refine region ?_
                      refine sv (yMove h19) ?_
                      refine sv (yAdd rfl rfl ⟨by omega, by omega⟩) ?_
                      refine sv (yAsg rfl) ?_
                      refine nil ?_
                      exact ⟨_, _, rfl, ⟨q + 1, h1, h2, h5, h7, h11, h12, h13, h15, rfl.trans (congrArg Value.bool (anyH_take hxu hyv).symm), rfl.trans (congrArg Value.bool (anyH_take hxu hyv).symm), rfl, hS, (by omega), rfl⟩, by omega⟩
                  ·
                    simp only [Bool.and_eq_true, Bool.or_eq_true, Bool.and_eq_false_iff, Bool.or_eq_false_iff, decide_eq_true_eq, decide_eq_false_iff_not, Bool.not_eq_true, Bool.not_eq_false, Bool.not_not, Bool.not_eq_eq_eq_not, Bool.not_true, Bool.not_false, Bool.false_eq_true, Bool.true_eq_false, ne_eq, Decidable.not_not, not_false_eq_true, not_true_eq_false] at c231
                    obtain rfl : q = xx.keys.length := by omega
                    refine exit ?_
                    show Code.wp _ _ _ _ _
                    refine seq ?_
                    refine region ?_
                    refine sv (fa79_5 h12) ?_
                    refine sv (yLdB rfl Try.isAgg4 (hS.at _) rfl) ?_
                    refine sv (yMove rfl) ?_
                    refine sg rfl rfl rfl (fun g => (yMove h17)) (fun v286 g286 => ?_)
                    refine sg rfl rfl rfl (fun g => (yNot (g286.1 g))) (fun v287 g287 => ?_)
                    refine sg rfl rfl rfl (fun g => (yMove (g287.1 g))) (fun v288 g288 => ?_)
                    refine sgg rfl rfl g288 (fun g => (yMove h18)) (fun v289 g289 => ?_)
                    refine sgg rfl rfl g288 (fun g => (yNot (g289.1 g))) (fun v290 g290 => ?_)
                    refine sg rfl rfl rfl (fun g => (yOr (g288.1 g) rfl (fun hB => (g290.1 ⟨g, hB⟩)))) (fun v291 g291 => ?_)
                    refine sv (yAnd rfl (fun hB => (g291.1 hB)) rfl) ?_
                    refine nil ?_
                    show Code.wp _ _ _ _ _
                    refine cond rfl (fun c292 => ?_) (fun c292 => ?_)
                    ·
                      skip
                      exfalso
                      simp only [List.take_length] at c292
                      cases hsp : xx.split with
                      | false => rw [hsp] at c292; simp at c292
                      | true =>
                        obtain ⟨e1, e2⟩ := hT.split hsp
                        rw [anyH_iff.2 e1, anyH_iff.2 e2, hsp] at c292
                        simp at c292
                    ·
                      skip
                      refine skip ?_
                      show Code.wp _ _ _ _ _
                      refine region ?_
                      refine sv (yMove h7) ?_
                      refine sv (yAdd rfl rfl ⟨by omega, by omega⟩) ?_
                      refine sv (yAsg rfl) ?_
                      refine nil ?_
                      exact ⟨_, _, rfl, ⟨i + 1, h1, h2, h5, rfl, (hS.sub (.cons _ (.cons _ (.cons _ (.cons _ (List.Sublist.refl _)))))), (by omega), rfl⟩, by omega⟩
    ·
      simp only [Bool.and_eq_true, Bool.or_eq_true, Bool.and_eq_false_iff, Bool.or_eq_false_iff, decide_eq_true_eq, decide_eq_false_iff_not, Bool.not_eq_true, Bool.not_eq_false, Bool.not_not, Bool.not_eq_eq_eq_not, Bool.not_true, Bool.not_false, Bool.false_eq_true, Bool.true_eq_false, ne_eq, Decidable.not_not, not_false_eq_true, not_true_eq_false] at c38
      refine exit ?_
      show Code.wp _ _ _ _ _
      refine seq ?_
      refine region ?_
      refine scall Try.call18 .nil c_Awake ?_
      rintro _ w ⟨rfl, hE⟩; replace hS := hS.step hE; clear hE
      refine sv (yAsg rfl) ?_
      refine nil ?_
      show Code.wp _ _ _ _ _
      refine wp_ret ?_
      exact retV (res1 rfl rfl) hS.ext
end Go.Proofs.Ytghgnofilbnbaaa
/- part C20 -/
namespace Bx
open Go Go.RowKit
def winF (c : Crew) (s : Scr) : List (Int × Int) := if (scriptF c s).2 ≠ 0 then [] else winL s.steps
theorem winF_bad {c : Crew} {s : Scr} (h : (scriptF c s).2 ≠ 0) : winF c s = [] := if_pos h
theorem winF_ok {c : Crew} {s : Scr} (h : (scriptF c s).2 = 0) : winF c s = winL s.steps := if_neg (not_not_intro h)
theorem pC_len (p : Int × Int) : (pC p).length = 2 := rfl
def RPr (_ : World) (cs : List Value) (p : Int × Int) : Prop := cs = pC p ∧ True
theorem RPr.stays : Stays RPr := fun _ _ _ _ _ h => h
theorem sl_prs {w : World} {e : TypeId} {v : Value} {n : Nat} {l : List (Int × Int)} (h : w.ownsRow 0 e 2 v n (l.flatMap pC)) (hn : l.length = n) : Sl w 2 RPr v l := by
  subst hn
  exact row_sl pC_len h (fun _ _ => trivial)
theorem getD_mem {α : Type} {l : List α} {i : Nat} {d : α} : l.getD i d ∈ l ∨ l.getD i d = d := by
  rw [List.getD_eq_getElem?_getD]
  cases h : l[i]? with
  | none => exact .inr rfl
  | some y => exact .inl (List.mem_of_getElem? h)
theorem winL_bd {c : Crew} {ss : List Stp} (h : ∀ (j : Nat) y, ss[j]? = some y → StpOk c j y) : ∀ k, k ≤ ss.length → ∀ y ∈ winL (ss.take k), (0 ≤ y.1 ∧ y.1 ≤ 240 * (k : Int)) ∧ 0 ≤ y.2 ∧ y.2 ≤ 240 * (k : Int)
  | 0, _ => fun y hy => (List.not_mem_nil (a := y) (by simpa [winL] using hy)).elim
  | k + 1, hk => fun y hy => by
    have ih := winL_bd h k (by omega)
    have hx := List.getElem?_eq_getElem (show k < ss.length by omega)
    rw [winL_take hx] at hy
    rcases List.mem_append.1 hy with hy | hy
    · have := ih y hy; omega
    · rw [List.mem_singleton.1 hy]
      have hs := h k _ hx
      have h1 := hs.most
      have h2 := hs.least
      unfold winS
      split
      · rcases getD_mem (l := winL (ss.take k)) (i := (ss[k]).after.toNat) (d := ((0 : Int), (0 : Int))) with hm | hm
        · have := ih _ hm
          dsimp only
          omega
        · rw [hm]
          dsimp only
          omega
      · dsimp only
        omega
theorem winL_pre (ss : List Stp) : ∀ k, k ≤ ss.length → winL (ss.take k) = (winL ss).take k := by
  have key : ∀ d k, k + d = ss.length → ∃ r, winL ss = winL (ss.take k) ++ r := by
    intro d
    induction d with
    | zero => intro k hk; exact ⟨[], by rw [List.append_nil, List.take_of_length_le (by omega)]⟩
    | succ d ih =>
      intro k hk
      obtain ⟨r, hr⟩ := ih (k + 1) (by omega)
      rw [winL_take (List.getElem?_eq_getElem (show k < ss.length by omega))] at hr
      exact ⟨_, by rw [hr, List.append_assoc]⟩
  intro k hk
  obtain ⟨r, hr⟩ := key (ss.length - k) k (by omega)
  rw [hr, List.take_left']
  rw [winL_len, List.length_take]; omega
theorem winL_get {ss : List Stp} {k : Nat} {x : Stp} (h : ss[k]? = some x) : (winL ss)[k]? = some (winS ((winL ss).take k) x) := by
  have hk := (List.getElem?_eq_some_iff.1 h).1
  have h1 := winL_take h
  rw [winL_pre ss (k + 1) (by omega), winL_pre ss k (by omega)] at h1
  have h2 : ((winL ss).take (k + 1))[k]? = some (winS ((winL ss).take k) x) := by
    rw [h1, List.getElem?_append_right (by rw [List.length_take]; omega), List.length_take, winL_len, Nat.min_eq_left (by omega), Nat.sub_self]
    rfl
  rwa [List.getElem?_take, if_pos (by omega)] at h2
/-! ### what is allowed -/
structure AllowP (c : Crew) (s : Scr) (start : Int) (l : List Int) : Prop where
  len : l.length = s.steps.length
  at_ : ∀ (i : Nat) x y, s.steps[i]? = some x → l[i]? = some y → (ableF c x.kind y).2.2 = 0 ∧ befP start l x + x.least ≤ y ∧ y ≤ befP start l x + x.most
theorem ableE_ok {c : Crew} {k m : Int} (hc : (checkC c).2.2 = 0) (hk : 0 ≤ k ∧ k < c.kinds.length) (hm : 0 ≤ m ∧ m ≤ 100000) : ableE c k m = 0 := by
  unfold ableE
  rw [if_neg (not_not_intro hc), if_neg (by rw [Bool.not_eq_true, outB_false]; omega), if_neg (by rw [Bool.not_eq_true, neverB, outB_false]; exact hm)]
theorem ableF_iff {c : Crew} {k m : Int} (hc : (checkC c).2.2 = 0) (hk : 0 ≤ k ∧ k < c.kinds.length) : (ableF c k m).2.2 = 0 ↔ (!neverB m && ableB c (kndAt c k) m) = true := by
  by_cases hm : 0 ≤ m ∧ m ≤ 100000
  · have hE := ableE_ok hc hk hm
    have hn : neverB m = false := by rw [neverB, outB_false]; exact hm
    rw [hn]
    unfold ableB
    cases hp : pairsL c (kndAt c k) m with
    | nil => rw [ableF_nil hE hp]; simp
    | cons p l => rw [ableF_cons hE hp]; simp
  · have hn : neverB m = true := by
      cases hb : neverB m with
      | true => rfl
      | false => rw [neverB, outB_false] at hb; exact absurd hb hm
    have hE : ableE c k m = 7 := by
      unfold ableE
      rw [if_neg (not_not_intro hc), if_neg (by rw [Bool.not_eq_true, outB_false]; omega), if_pos hn]
    rw [ableF_e hE (by decide), hn]
    simp
theorem ableF_min {c : Crew} {k m : Int} (hc : (checkC c).2.2 = 0) (hk : 0 ≤ k ∧ k < c.kinds.length) (h : (ableF c k m).2.2 = 0) : 0 ≤ m ∧ m ≤ 100000 := by
  rw [ableF_iff hc hk, Bool.and_eq_true, Bool.not_eq_true', neverB, outB_false] at h
  exact h.1
theorem firstIn_le {p : Int → Bool} {lo hi v : Int} (h1 : lo ≤ v) (h2 : v ≤ hi) (hp : p v = true) : lo ≤ firstIn p lo hi ∧ firstIn p lo hi ≤ v ∧ p (firstIn p lo hi) = true := by
  unfold firstIn
  cases hf : (List.range (hi - lo + 1).toNat).find? (fun (j : Nat) => p (lo + (j : Int))) with
  | none =>
    rw [List.find?_eq_none] at hf
    have := hf (v - lo).toNat (List.mem_range.2 (by omega))
    rw [show lo + (((v - lo).toNat : Nat) : Int) = v by omega] at this
    exact absurd hp this
  | some j =>
    rw [List.find?_range_eq_some] at hf
    refine ⟨by dsimp only; omega, ?_, hf.1⟩
    rcases Nat.lt_or_ge (v - lo).toNat j with h | h
    · have := hf.2.2 _ h
      rw [show lo + (((v - lo).toNat : Nat) : Int) = v by omega, hp] at this
      cases this
    · dsimp only; omega
theorem crew_of {c : Crew} {s : Scr} (h : (scriptF c s).2 = 0) : (checkC c).2.2 = 0 := by
  unfold scriptF at h
  split at h
  · rename_i h1; exact absurd h h1
  · rename_i h1; exact Classical.not_not.1 h1
theorem baseP_iff {c : Crew} {s : Scr} {st : Nat} {m : Int} {x : Stp} (hs : (scriptF c s).2 = 0) (hx : s.steps[st]? = some x) : baseP c s st m = true ↔ (ableF c x.kind m).2.2 = 0 := by
  rw [ableF_iff (crew_of hs) ((scrOk_of hs).steps st x hx).kind]
  unfold baseP
  rw [stpAt_hit hx]
theorem canS_base {c : Crew} {s : Scr} {st : Nat} {m : Int} (hok : ScrOk c s) (h : st < s.steps.length) (hc : canS c s st m = true) : baseP c s st m = true := by
  rw [canS_eq hok.steps h, Bool.and_eq_true] at hc
  exact hc.1
theorem canS_next {c : Crew} {s : Scr} {st k : Nat} {m : Int} {x : Stp} (hok : ScrOk c s) (h : st < s.steps.length) (hc : canS c s st m = true) (hx : s.steps[k]? = some x) (ha : x.after = st) : 0 ≤ firstP c s k m := by
  rw [canS_eq hok.steps h, Bool.and_eq_true, List.all_eq_true] at hc
  have := hc.2 k (List.mem_range.2 (List.getElem?_eq_some_iff.1 hx).1)
  rw [stpAt_hit hx, ha, Bool.or_eq_true] at this
  rcases this with h | h
  · simp at h
  · exact of_decide_eq_true h
theorem canS_mk {c : Crew} {s : Scr} {st : Nat} {m : Int} (hok : ScrOk c s) (h : st < s.steps.length) (hb : baseP c s st m = true) (hn : ∀ (k : Nat) x, s.steps[k]? = some x → x.after = st → 0 ≤ firstP c s k m) : canS c s st m = true := by
  rw [canS_eq hok.steps h, Bool.and_eq_true, List.all_eq_true]
  refine ⟨hb, fun k hk => ?_⟩
  have hx := List.getElem?_eq_getElem (List.mem_range.1 hk)
  rw [stpAt_hit hx, Bool.or_eq_true]
  by_cases ha : (s.steps[k]'(List.mem_range.1 hk)).after = (st : Int)
  · exact .inr (decide_eq_true (hn k _ hx ha))
  · exact .inl (decide_eq_true ha)
theorem firstP_le {c : Crew} {s : Scr} {k : Nat} {x : Stp} {b v : Int} (hx : s.steps[k]? = some x) (h1 : b + x.least ≤ v) (h2 : v ≤ b + x.most) (hc : canS c s k v = true) : b + x.least ≤ firstP c s k b ∧ firstP c s k b ≤ v := by
  have hxa := stpAt_hit hx
  unfold firstP
  rw [hxa]
  obtain ⟨a, b, _⟩ := firstIn_le h1 h2 hc
  exact ⟨a, b⟩
theorem firstP_in {c : Crew} {s : Scr} {k : Nat} {x : Stp} {b : Int} (hx : s.steps[k]? = some x) (h : 0 ≤ firstP c s k b) : b + x.least ≤ firstP c s k b ∧ firstP c s k b ≤ b + x.most ∧ canS c s k (firstP c s k b) = true := by
  have hxa := stpAt_hit hx
  unfold firstP at h ⊢
  rw [hxa] at h ⊢
  obtain ⟨j, e, h1, h2, _⟩ := firstIn_spec (.inl h)
  rw [e]
  exact ⟨by omega, h1, h2⟩
theorem befP_at {start : Int} {l : List Int} {x : Stp} {a : Nat} {v : Int} (ha : x.after = a) (hv : l[a]? = some v) : befP start l x = v := by
  unfold befP
  rw [if_pos (by omega), ha, Int.toNat_natCast]
  exact getD_hit hv
theorem befP_neg {start : Int} {l : List Int} {x : Stp} (ha : x.after < 0) : befP start l x = start := if_neg (by omega)
theorem befP_app {start : Int} {l r : List Int} {x : Stp} (ha : x.after < l.length) : befP start (l ++ r) x = befP start l x := by
  unfold befP
  split
  · rw [List.getD_eq_getElem?_getD, List.getD_eq_getElem?_getD, List.getElem?_append_left (by omega)]
  · rfl
theorem allow_can {c : Crew} {s : Scr} {start : Int} {l : List Int} (hs : (scriptF c s).2 = 0) (h : AllowP c s start l) : ∀ (d st : Nat) (v : Int), l[st]? = some v → s.steps.length - st ≤ d → canS c s st v = true := by
  have hok := scrOk_of hs
  intro d
  induction d using Nat.strongRecOn with
  | _ D ih =>
    intro st v hv hd
    have hlt : st < s.steps.length := by rw [← h.len]; exact (List.getElem?_eq_some_iff.1 hv).1
    have hx := List.getElem?_eq_getElem hlt
    obtain ⟨h1, _, _⟩ := h.at_ st _ v hx hv
    refine canS_mk hok hlt ((baseP_iff hs hx).2 h1) (fun k y hy ha => ?_)
    have hky := (List.getElem?_eq_some_iff.1 hy).1
    have hsk := hok.steps k y hy
    have hak := hsk.after
    have hl := hsk.least
    obtain ⟨u, hu⟩ : ∃ u, l[k]? = some u := ⟨_, List.getElem?_eq_getElem (by rw [h.len]; exact hky)⟩
    obtain ⟨g1, g2, g3⟩ := h.at_ k y u hy hu
    rw [befP_at ha hv] at g2 g3
    have hcu := ih (D - 1) (by omega) k u hu (by omega)
    have hvm := ableF_min (crew_of hs) (hok.steps st _ hx).kind h1
    have := firstP_le hy g2 g3 hcu
    omega
/-! ### the plan -/
def GoodP (c : Crew) (s : Scr) (start : Int) (l : List Int) : Prop := ∀ (i : Nat) x y, s.steps[i]? = some x → l[i]? = some y → y = firstP c s i (befP start l x) ∧ 0 ≤ y
theorem good_snoc {c : Crew} {s : Scr} {start : Int} {l : List Int} {x : Stp} (hok : ScrOk c s) (h : GoodP c s start l) (hx : s.steps[l.length]? = some x) (h0 : 0 ≤ firstP c s l.length (befP start l x)) : GoodP c s start (l ++ [firstP c s l.length (befP start l x)]) := by
  intro i y z hy hz
  have hay := (hok.steps i y hy).after
  by_cases hi : i < l.length
  · rw [List.getElem?_append_left hi] at hz
    rw [befP_app (by omega)]
    exact h i y z hy hz
  · have hl := (List.getElem?_eq_some_iff.1 hz).1
    rw [List.length_append, List.length_singleton] at hl
    obtain rfl : i = l.length := by omega
    rw [List.getElem?_append_right (Nat.le_refl _), Nat.sub_self] at hz
    obtain rfl : firstP c s l.length (befP start l x) = z := by simpa using hz
    obtain rfl : x = y := Option.some.inj (hx.symm.trans hy)
    rw [befP_app (by omega)]
    exact ⟨rfl, h0⟩
theorem planR_spec {c : Crew} {s : Scr} {start : Int} (hok : ScrOk c s) : ∀ (r : List Stp) (i : Nat) (l : List Int), r = s.steps.drop i → l.length = i → i ≤ s.steps.length → GoodP c s start l →
    (∀ p, planR c s start r i l = some p → GoodP c s start p ∧ p.length = s.steps.length) ∧ (planR c s start r i l = none → ∃ pre x, GoodP c s start pre ∧ s.steps[pre.length]? = some x ∧ firstP c s pre.length (befP start pre x) < 0)
  | [], i, l, hr, hl, hi, hg => by
    have : s.steps.length ≤ i := by
      have := congrArg List.length hr
      rw [List.length_drop, List.length_nil] at this
      omega
    refine ⟨fun p hp => ?_, fun hn => by cases hn⟩
    obtain rfl : l = p := by simpa [planR] using hp
    exact ⟨hg, by omega⟩
  | x :: r, i, l, hr, hl, hi, hg => by
    have hlt : i < s.steps.length := by
      have := congrArg List.length hr
      rw [List.length_drop, List.length_cons] at this
      omega
    have hd := List.drop_eq_getElem_cons hlt
    rw [← hr] at hd
    obtain ⟨e1, e2⟩ := List.cons.inj hd
    have hx : s.steps[i]? = some x := by rw [e1]; exact List.getElem?_eq_getElem hlt
    rw [planR_cons]
    subst hl
    split
    · rename_i h0
      exact ⟨fun p hp => (by cases hp), fun _ => ⟨l, x, hg, hx, h0⟩⟩
    · rename_i h0
      exact planR_spec hok r (l.length + 1) _ e2 (by simp) (by omega) (good_snoc hok hg hx (by omega))
theorem good_nil (c : Crew) (s : Scr) (start : Int) : GoodP c s start [] := fun i x y _ h => by simp at h
theorem good_allow {c : Crew} {s : Scr} {start : Int} {p : List Int} (hs : (scriptF c s).2 = 0) (h : GoodP c s start p) (hl : p.length = s.steps.length) : AllowP c s start p := by
  refine ⟨hl, fun i x y hx hy => ?_⟩
  obtain ⟨e, h0⟩ := h i x y hx hy
  have hlt := (List.getElem?_eq_some_iff.1 hx).1
  obtain ⟨a, b, d⟩ := firstP_in hx (e ▸ h0)
  rw [← e] at a b d
  exact ⟨(baseP_iff hs hx).1 (canS_base (scrOk_of hs) hlt d), a, b⟩
theorem good_first {c : Crew} {s : Scr} {start : Int} {l p : List Int} (hs : (scriptF c s).2 = 0) (hl : AllowP c s start l) (hp : GoodP c s start p) {i : Nat} {y z : Int} (he : ∀ j, j < i → l[j]? = p[j]?) (hy : l[i]? = some y) (hz : p[i]? = some z) : z ≤ y := by
  have hlt : i < s.steps.length := by rw [← hl.len]; exact (List.getElem?_eq_some_iff.1 hy).1
  have hx := List.getElem?_eq_getElem hlt
  obtain ⟨e, h0⟩ := hp i _ z hx hz
  obtain ⟨_, g2, g3⟩ := hl.at_ i _ y hx hy
  have hc := allow_can hs hl _ i y hy (Nat.le_refl _)
  have hbe : befP start l (s.steps[i]) = befP start p (s.steps[i]) := by
    have ha := ((scrOk_of hs).steps i _ hx).after
    unfold befP
    split
    · rw [List.getD_eq_getElem?_getD, List.getD_eq_getElem?_getD, he _ (by omega)]
    · rfl
  rw [hbe] at g2 g3
  rw [e]
  exact (firstP_le hx g2 g3 hc).2
theorem good_stop {c : Crew} {s : Scr} {start : Int} {l pre : List Int} {x : Stp} (hs : (scriptF c s).2 = 0) (h0 : 0 ≤ start) (hl : AllowP c s start l) (hp : GoodP c s start pre) (hx : s.steps[pre.length]? = some x) (hn : firstP c s pre.length (befP start pre x) < 0) : False := by
  have hok := scrOk_of hs
  have hsx := hok.steps _ x hx
  have ha := hsx.after
  have hlx := hsx.least
  have hlt := (List.getElem?_eq_some_iff.1 hx).1
  by_cases hneg : x.after < 0
  · obtain ⟨y, hy⟩ : ∃ y, l[pre.length]? = some y := ⟨_, List.getElem?_eq_getElem (by rw [hl.len]; exact hlt)⟩
    obtain ⟨_, g2, g3⟩ := hl.at_ _ x y hx hy
    rw [befP_neg hneg] at g2 g3 hn
    have := firstP_le hx g2 g3 (allow_can hs hl _ _ y hy (Nat.le_refl _))
    omega
  · obtain ⟨a, hae⟩ := Int.eq_ofNat_of_zero_le (show 0 ≤ x.after by omega)
    have hal : a < pre.length := by omega
    have hv := List.getElem?_eq_getElem hal
    have hxa := List.getElem?_eq_getElem (show a < s.steps.length by omega)
    obtain ⟨e, hv0⟩ := hp a _ _ hxa hv
    have hca := (firstP_in hxa (e ▸ hv0)).2.2
    rw [← e] at hca
    have := canS_next hok (by omega) hca hx hae
    rw [befP_at hae hv] at hn
    omega
theorem plan_ok {c : Crew} {s : Scr} {start : Int} (h : planE c s start = 0) : (scriptF c s).2 = 0 ∧ (0 ≤ start ∧ start ≤ 100000) ∧ GoodP c s start (planL c s start) ∧ (planL c s start).length = s.steps.length := by
  unfold planE at h
  split at h
  · rename_i h1; exact absurd h h1
  rename_i h1
  have h1 := Classical.not_not.1 h1
  split at h
  · cases h
  rename_i h2
  have hm : 0 ≤ start ∧ start ≤ 100000 := by rw [Bool.not_eq_true, neverB, outB_false] at h2; exact h2
  refine ⟨h1, hm, ?_⟩
  have hsp := planR_spec (start := start) (scrOk_of h1) s.steps 0 [] rfl rfl (Nat.zero_le _) (good_nil c s start)
  cases hp : planR c s start s.steps 0 [] with
  | none => rw [hp] at h; cases h
  | some l =>
    obtain ⟨_, e⟩ := planE_some h1 (by rw [neverB, outB_false]; exact hm) hp
    rw [e]
    exact hsp.1 l hp
theorem plan_down {c : Crew} {s : Scr} {start : Int} (hs : (scriptF c s).2 = 0) (h : planE c s start = 9) : (0 ≤ start ∧ start ≤ 100000) ∧ ∀ l, ¬ AllowP c s start l := by
  unfold planE at h
  rw [if_neg (not_not_intro hs)] at h
  split at h
  · cases h
  rename_i h2
  have hm : 0 ≤ start ∧ start ≤ 100000 := by rw [Bool.not_eq_true, neverB, outB_false] at h2; exact h2
  refine ⟨hm, fun l hl => ?_⟩
  have hsp := planR_spec (start := start) (scrOk_of hs) s.steps 0 [] rfl rfl (Nat.zero_le _) (good_nil c s start)
  cases hp : planR c s start s.steps 0 [] with
  | some l => rw [hp] at h; cases h
  | none =>
    obtain ⟨pre, x, g1, g2, g3⟩ := hsp.2 hp
    exact good_stop hs hm.1 hl g1 g2 g3
theorem good_win {c : Crew} {s : Scr} {start : Int} {p : List Int} (hs : (scriptF c s).2 = 0) (h : GoodP c s start p) : ∀ (i : Nat) y w, p[i]? = some y → (winL s.steps)[i]? = some w → start + w.1 ≤ y ∧ y ≤ start + w.2 := by
  intro i
  induction i using Nat.strongRecOn with
  | _ i ih =>
    intro y w hy hw
    have hlt : i < s.steps.length := by have := (List.getElem?_eq_some_iff.1 hw).1; rwa [winL_len] at this
    have hx := List.getElem?_eq_getElem hlt
    rw [winL_get hx] at hw
    obtain rfl := Option.some.inj hw
    obtain ⟨e, h0⟩ := h i _ y hx hy
    obtain ⟨a, b, _⟩ := firstP_in hx (e ▸ h0)
    rw [← e] at a b
    have hax := ((scrOk_of hs).steps i _ hx).after
    by_cases hneg : (s.steps[i]).after < 0
    · rw [befP_neg hneg] at a b
      unfold winS
      rw [if_neg (by omega)]
      dsimp only
      omega
    · obtain ⟨q, hq⟩ := Int.eq_ofNat_of_zero_le (show 0 ≤ (s.steps[i]).after by omega)
      have hpl : q < p.length := by have := (List.getElem?_eq_some_iff.1 hy).1; omega
      have hv := List.getElem?_eq_getElem hpl
      have hwq := List.getElem?_eq_getElem (show q < (winL s.steps).length by rw [winL_len]; omega)
      have ihq := ih q (by omega) _ _ hv hwq
      rw [befP_at hq hv] at a b
      unfold winS
      rw [if_pos (by omega)]
      have hg : ((winL s.steps).take i).getD (s.steps[i]).after.toNat (0, 0) = (winL s.steps)[q]'(by rw [winL_len]; omega) := by
        rw [hq, Int.toNat_natCast]
        exact getD_hit (by rw [List.getElem?_take, if_pos (by omega)]; exact hwq)
      rw [hg]
      dsimp only
      omega
end Bx
namespace Bx
open Go Go.RowKit
theorem winS_yes {l : List (Int × Int)} {x : Stp} {a : Nat} {y : Int × Int} (ha : x.after = a) (hy : l[a]? = some y) : winS l x = (x.least + y.1, x.most + y.2) := by
  unfold winS
  rw [if_pos (by omega), ha, Int.toNat_natCast, getD_hit hy]
theorem winS_no {l : List (Int × Int)} {x : Stp} (ha : ¬ 0 ≤ x.after) : winS l x = (x.least, x.most) := if_neg ha
/-- A script, a start, acts. -/
structure Drl where
  script : Scr
  start : Int
  acts : List Acn
def RDrl (w : World) (cs : List Value) (d : Drl) : Prop := ∃ sv av, cs = [.string d.script.name, sv, .int .i64 d.start, av] ∧ d.script.name.size ≤ 9223372036854775807 ∧ Sl w 5 RStp sv d.script.steps ∧ I64 d.start ∧ Sl w 6 RAct av d.acts
theorem first_bad {c : Crew} {s : Scr} {start : Int} (h : (planE c s start ≠ 0 ∧ planE c s start ≠ 9) ∨ (scriptF c s).2 ≠ 0) : planE c s start ≠ 0 := by
  rcases h with h | h
  · exact h.1
  · rw [(planE_bad h).1]; exact h
theorem good_bd {c : Crew} {s : Scr} {start : Int} {p : List Int} (hs : (scriptF c s).2 = 0) (h : GoodP c s start p) (hl : p.length = s.steps.length) : ∀ y ∈ p, 0 ≤ y ∧ y ≤ 100000 := by
  intro y hy
  obtain ⟨i, hi, rfl⟩ := List.getElem_of_mem hy
  have hx := List.getElem?_eq_getElem (show i < s.steps.length by omega)
  exact ableF_min (crew_of hs) ((scrOk_of hs).steps i _ hx).kind ((good_allow hs h hl).at_ i _ _ hx (List.getElem?_eq_getElem hi)).1
theorem plan_start {c : Crew} {s : Scr} {start : Int} (hs : (scriptF c s).2 = 0) (h : planE c s start = 0 ∨ planE c s start = 9) : 0 ≤ start ∧ start ≤ 100000 := by
  rcases h with h | h
  · exact (plan_ok h).2.1
  · exact (plan_down hs h).1
end Bx
/- part Ck32 -/
namespace Go.Proofs.Ytghgnofilbnbaaa
open Go Bx
set_option maxHeartbeats 4000000 in
/-- barrage/crew.Windows -/
theorem c_Windows {c : Crew} {cs ss : List Value} {s : Scr} {w0 : World} (h : RCrew w0 cs c) (hs : RScr w0 ss s) : CE Try.prog 25 #[.agg cs.toArray, .agg ss.toArray] w0 (fun u w' => ∃ lv, u = .tuple #[lv, .int .i64 (scriptF c s).2] ∧ St w0 w' [rowI lv 86 2 (winF c s).length ((winF c s).flatMap pC)]) := by
  obtain ⟨ov, kv, nv, rfl, hso, hsk, hsn, hrm⟩ := id h
  obtain ⟨a, cap, rfl, hcap, hmx, hel⟩ := id hso
  obtain ⟨sv, rfl, hsz, hst⟩ := id hs
  obtain ⟨ax, cps, rfl, hscap, hsmx, hels⟩ := id hst
  refine enter Try.func25 rfl Try.ntmps25 rfl ?_
  have hS := St.start w0
  refine seq ?_
  refine region ?_
  refine sbox hS rfl rfl ?_; clear hS; intro b2 w hS
  refine sbox hS rfl rfl ?_; clear hS; intro b3 w hS
  refine sv (yAsg rfl) ?_
  refine sv (yAsg rfl) ?_
  refine nil ?_
  show Code.wp _ _ _ _ _
  refine seq ?_
  refine seq ?_
  refine region ?_
  refine sv (yLdBA rfl Try.isAgg26 Try.sizeOf26 (hS.at _) rfl rfl) ?_
  refine sv (yLdBA rfl Try.isAgg29 Try.sizeOf29 (hS.at _) rfl rfl) ?_
  refine scall Try.call23 (.cons rfl (.cons rfl .nil)) (c_CheckScript (h.ext hS.ext) (hs.ext hS.ext)) ?_
  rintro _ w ⟨rfl, hE⟩; replace hS := hS.step hE; clear hE
  refine sv (yMove rfl) ?_
  refine sv (yExt rfl rfl) ?_
  refine sv (yExt rfl rfl) ?_
  refine sv (yAsg rfl) ?_
  refine nil ?_
  show Code.wp _ _ _ _ _
  refine seq ?_
  refine region ?_
  refine sv (yMove rfl) ?_
  refine sv (yNeq rfl rfl) ?_
  refine nil ?_
  show Code.wp _ _ _ _ _
  refine cond rfl (fun c16 => ?_) (fun c16 => ?_)
  ·
    simp only [Bool.and_eq_true, Bool.or_eq_true, Bool.and_eq_false_iff, Bool.or_eq_false_iff, decide_eq_true_eq, decide_eq_false_iff_not, Bool.not_eq_true, Bool.not_eq_false, Bool.not_not, Bool.not_eq_eq_eq_not, Bool.not_true, Bool.not_false, Bool.false_eq_true, Bool.true_eq_false, ne_eq, Decidable.not_not, not_false_eq_true, not_true_eq_false] at c16
    refine seq ?_
    refine region ?_
    refine sv (yMove rfl) ?_
    refine sv (yAsg rfl) ?_
    refine sv (yAsg rfl) ?_
    refine nil ?_
    show Code.wp _ _ _ _ _
    refine wp_ret (thenR ?_)
    refine retQ (res2 rfl rfl rfl) ?_
    exact ⟨_, rfl, by rw [winF_bad c16]; exact (hS.nilrow 86 2).sub (.cons_cons _ (List.nil_sublist _))⟩
  ·
    simp only [Bool.and_eq_true, Bool.or_eq_true, Bool.and_eq_false_iff, Bool.or_eq_false_iff, decide_eq_true_eq, decide_eq_false_iff_not, Bool.not_eq_true, Bool.not_eq_false, Bool.not_not, Bool.not_eq_eq_eq_not, Bool.not_true, Bool.not_false, Bool.false_eq_true, Bool.true_eq_false, ne_eq, Decidable.not_not, not_false_eq_true, not_true_eq_false] at c16
    have hok := scrOk_of c16
    have hlen := hok.len
    refine skip ?_
    show Code.wp _ _ _ _ _
    refine seq ?_
    refine seq ?_
    refine region ?_
    refine sv (fa29_1 rfl) ?_
    refine sv (yLdB rfl Try.isAgg27 (hS.at _) rfl) ?_
    refine sv (yLen rfl Try.underlying27) ?_
    refine sv (yMove rfl) ?_
    refine nil ?_
    show Code.wp _ _ _ _ _
    refine block ?_
    refine loop (fun f w zz => ∃ (k : Nat) (lv : Value), f 4 = lv ∧ f 19 = .slice ax s.steps.length cps ∧ f 20 = .int .i64 (s.steps.length : Int) ∧ f 21 = .int .i64 (k : Int) ∧ StX [] w0 w [rowI lv 86 2 k ((winL (s.steps.take k)).flatMap pC)] ∧ (k ≤ s.steps.length) ∧ zz = s.steps.length - k) _ ⟨_, rfl, 0, _, rfl, rfl, rfl, rfl, ((hS.nilrow 86 2).sub (.cons_cons _ (List.nil_sublist _))), (Nat.zero_le _), rfl⟩ ?_
    clear hS
    rintro f w _ ⟨k, lv, h4, h19, h20, h21, hS, hk, rfl⟩
    refine seq ?_
    refine region ?_
    refine sv (yLss h21 h20) ?_
    refine nil ?_
    show Code.wp _ _ _ _ _
    refine seq ?_
    refine cond rfl (fun c22 => ?_) (fun c22 => ?_)
    ·
      simp only [Bool.and_eq_true, Bool.or_eq_true, Bool.and_eq_false_iff, Bool.or_eq_false_iff, decide_eq_true_eq, decide_eq_false_iff_not, Bool.not_eq_true, Bool.not_eq_false, Bool.not_not, Bool.not_eq_eq_eq_not, Bool.not_true, Bool.not_false, Bool.false_eq_true, Bool.true_eq_false, ne_eq, Decidable.not_not, not_false_eq_true, not_true_eq_false] at c22
      refine skip ?_
      show Code.wp _ _ _ _ _
      refine seq ?_
      refine block ?_
      refine seq ?_
      refine region ?_
      obtain ⟨x, hxq, hdq⟩ := drop_of (l := s.steps) (k := k) (by omega)
      obtain ⟨bq, oq, csq, haq, hlenq, hcsq, hRq⟩ := hels (k) (by omega)
      obtain rfl : x = s.steps[k] := (List.getElem?_eq_some_iff.1 hxq).2.symm
      generalize s.steps[k] = x at hxq hdq hRq
      obtain ⟨rfl, hxi⟩ := hRq
      have hsx := hok.steps k x hxq
      have hx1 := hsx.after
      have hx2 := hsx.most
      have hx3 := hsx.least
      refine sv (yIxa h19 haq h21 Try.runUnderlying27 Try.sizeOf89 (by omega) (by omega)) ?_
      refine sv (yLdA rfl Try.isAgg89 Try.sizeOf89 (hcsq.ext hS.ext) rfl) ?_
      refine salloc hS Try.zeroValue89 rfl ?_; clear hS; intro b7 w hS
      refine sst hS rfl rfl Try.sizeOf89 rfl rfl rfl rfl ?_; clear hS; intro w hS
      refine nil ?_
      show Code.wp _ _ _ _ _
      refine seq ?_
      refine region ?_
      refine sv (fa89_3 rfl) ?_
      refine sv (yLdB rfl Try.isAgg3 (hS.at _) rfl) ?_
      refine sv (fa89_4 rfl) ?_
      refine sv (yLdB rfl Try.isAgg3 (hS.at _) rfl) ?_
      refine sv (yBuild Try.zeroValue86 rfl pl86 (.cons rfl rfl (.cons rfl rfl .nil)) rfl) ?_
      refine salloc hS Try.zeroValue86 rfl ?_; clear hS; intro b8 w hS
      refine sst hS rfl rfl Try.sizeOf86 rfl rfl rfl rfl ?_; clear hS; intro w hS
      refine nil ?_
      show Code.wp _ _ _ _ _
      refine seqJ (n := 59) (fun f w => ∃ (lv : Value), f 4 = lv ∧ f 8 = .pointer (some ⟨b8, 0, none⟩) ∧ f 19 = .slice ax s.steps.length cps ∧ f 20 = .int .i64 (s.steps.length : Int) ∧ f 21 = .int .i64 (k : Int) ∧ StX [] w0 w [blk b8 (pC (winS (winL (s.steps.take k)) x)) 86, blk b7 (stpC x) 89, rowI lv 86 2 k ((winL (s.steps.take k)).flatMap pC)] ∧ True) ?_ ?_
      ·
        refine seq ?_
        refine region ?_
        replace hS : StX [] w0 w (blk b8 [.int .i64 x.least, .int .i64 x.most] 86 :: blk b7 (stpC x) 89 :: rowI lv 86 2 k ((winL (s.steps.take k)).flatMap pC) :: []) := hS
        refine sv (fa89_2 rfl) ?_
        refine sv (yLdB rfl Try.isAgg3 (hS.at _) rfl) ?_
        refine sv (yGeq rfl rfl) ?_
        refine nil ?_
        show Code.wp _ _ _ _ _
        refine cond rfl (fun c32 => ?_) (fun c32 => ?_)
        ·
          simp only [Bool.and_eq_true, Bool.or_eq_true, Bool.and_eq_false_iff, Bool.or_eq_false_iff, decide_eq_true_eq, decide_eq_false_iff_not, Bool.not_eq_true, Bool.not_eq_false, Bool.not_not, Bool.not_eq_eq_eq_not, Bool.not_true, Bool.not_false, Bool.false_eq_true, Bool.true_eq_false, ne_eq, Decidable.not_not, not_false_eq_true, not_true_eq_false] at c32
          refine seq ?_
          refine region_tail mixed 10 (by kernel_rfl) hS ?_
          obtain ⟨g, chl, rfl, -⟩ := row_some (hS.row lv) (by omega)
          obtain ⟨q, hq⟩ := Int.eq_ofNat_of_zero_le c32
          obtain ⟨y, hy, -⟩ := drop_of (l := winL (s.steps.take k)) (k := q) (by rw [winL_len, List.length_take]; omega)
          have hyb := winL_bd hok.steps k (by omega) y (List.mem_of_getElem? hy)
          refine qv (fun w hS => (fa86_0 rfl)) ?_
          refine qv (fun w hS => (yLdB rfl Try.isAgg3 (hS.at _) rfl)) ?_
          refine qv (fun w hS => (yMove h4)) ?_
          refine qv (fun w hS => (fa89_2 rfl)) ?_
          refine qv (fun w hS => (yLdB rfl Try.isAgg3 (hS.at _) rfl)) ?_
          refine qv (fun w hS => (yIx0 rfl (rfl.trans (congrArg (Value.int .i64) hq)) Try.runUnderlying62 Try.sizeOf86 (by omega))) ?_
          refine qv (fun w hS => (fa86_0 rfl)) ?_
          refine qv (fun w hS => (yLd rfl Try.isAgg3 ((flat_cells0 pC_len (row_at (hS.row (.slice (some ⟨g, 0, none⟩) k chl)) rfl (by omega)) hy).at (j := 0) rfl))) ?_
          refine qv (fun w hS => (yAdd rfl rfl ⟨by omega, by omega⟩)) ?_
          refine qv (fun w hS => (fa86_0 rfl)) ?_
          clear hS; refine qtl (fun w hS => ?_)
          refine sst hS rfl rfl Try.sizeOf3 rfl rfl rfl rfl ?_; clear hS; intro w hS
          refine nil ?_
          show Code.wp _ _ _ _ _
          refine region_tail mixed 10 (by kernel_rfl) hS ?_
          refine qv (fun w hS => (fa86_1 rfl)) ?_
          refine qv (fun w hS => (yLdB rfl Try.isAgg3 (hS.at _) rfl)) ?_
          refine qv (fun w hS => (yMove h4)) ?_
          refine qv (fun w hS => (fa89_2 rfl)) ?_
          refine qv (fun w hS => (yLdB rfl Try.isAgg3 (hS.at _) rfl)) ?_
          refine qv (fun w hS => (yIx0 rfl (rfl.trans (congrArg (Value.int .i64) hq)) Try.runUnderlying62 Try.sizeOf86 (by omega))) ?_
          refine qv (fun w hS => (fa86_1 rfl)) ?_
          refine qv (fun w hS => (yLd rfl Try.isAgg3 ((flat_cells0 pC_len (row_at (hS.row (.slice (some ⟨g, 0, none⟩) k chl)) rfl (by omega)) hy).at (j := 1) rfl))) ?_
          refine qv (fun w hS => (yAdd rfl rfl ⟨by omega, by omega⟩)) ?_
          refine qv (fun w hS => (fa86_1 rfl)) ?_
          clear hS; refine qtl (fun w hS => ?_)
          refine sst hS rfl rfl Try.sizeOf3 rfl rfl rfl rfl ?_; clear hS; intro w hS
          refine nil ?_
          exact ⟨_, rfl, _, h4, rfl, h19, h20, h21, (by rw [winS_yes hq hy]; exact hS), trivial⟩
        ·
          simp only [Bool.and_eq_true, Bool.or_eq_true, Bool.and_eq_false_iff, Bool.or_eq_false_iff, decide_eq_true_eq, decide_eq_false_iff_not, Bool.not_eq_true, Bool.not_eq_false, Bool.not_not, Bool.not_eq_eq_eq_not, Bool.not_true, Bool.not_false, Bool.false_eq_true, Bool.true_eq_false, ne_eq, Decidable.not_not, not_false_eq_true, not_true_eq_false] at c32
          refine skip ?_
          exact ⟨_, rfl, _, h4, rfl, h19, h20, h21, (by rw [winS_no (by omega)]; exact hS), trivial⟩
      ·
        clear hS; rintro f w ⟨lv, h4, h8, h19, h20, h21, hS, -⟩
        refine region ?_
        refine sv (yMove h4) ?_
        refine sv (yLdBA h8 Try.isAgg86 Try.sizeOf86 (hS.at _) rfl rfl) ?_
        refine sbslice hS Try.underlying62 Try.sizeOf86 rfl Try.zeroValue86 rfl (.cons rfl rfl .nil) rfl ?_; clear hS; intro b55 w hS
        refine sapp (bytes := 16) (size := 2) (v := lv) (m := 1) hS rfl rfl Try.underlying62 ti86 rfl rfl rfl rfl (by decide) (blk_cells (hS.at _)) rfl rfl (by omega) (by omega) ?_; clear hS; intro v56 w hS
        refine sv (yAsg rfl) ?_
        refine nil ?_
        show Code.wp _ _ _ _ _
        refine region ?_
        refine sv (yAdd h21 rfl ⟨by omega, by omega⟩) ?_
        refine sv (yMove rfl) ?_
        refine nil ?_
        exact ⟨_, _, rfl, ⟨k + 1, v56, rfl, h19, h20, rfl, (by rw [winL_take hxq, List.flatMap_append]; exact hS.sub (.cons _ (.cons _ (.cons _ (List.Sublist.refl _))))), (by omega), rfl⟩, by omega⟩
    ·
      simp only [Bool.and_eq_true, Bool.or_eq_true, Bool.and_eq_false_iff, Bool.or_eq_false_iff, decide_eq_true_eq, decide_eq_false_iff_not, Bool.not_eq_true, Bool.not_eq_false, Bool.not_not, Bool.not_eq_eq_eq_not, Bool.not_true, Bool.not_false, Bool.false_eq_true, Bool.true_eq_false, ne_eq, Decidable.not_not, not_false_eq_true, not_true_eq_false] at c22
      refine exit ?_
      show Code.wp _ _ _ _ _
      refine seq ?_
      refine region ?_
      refine sv (yMove h4) ?_
      refine sv (yAsg rfl) ?_
      refine sv (yAsg rfl) ?_
      refine nil ?_
      show Code.wp _ _ _ _ _
      refine wp_ret ?_
      refine retQ (res2 rfl rfl rfl) ?_
      obtain rfl : k = s.steps.length := by omega
      rw [List.take_length] at hS
      exact ⟨lv, by (rw [c16]; try rfl), by rw [winF_ok c16, winL_len]; exact hS⟩
/-- barrage/barrageref02.Spans -/
theorem c_Spans {la lb : List (Int × Int)} {va vb : Value} {w0 : World} (ha : Sl w0 2 RPr va la) (hb : Sl w0 2 RPr vb lb) : CV Try.prog 27 #[va, vb] w0 (.bool (decide (la = lb))) := by
  obtain ⟨aa, ca, rfl, hca, hma, hela⟩ := ha
  obtain ⟨ab, cb, rfl, hcb, hmb, helb⟩ := hb
  refine enter Try.func27 rfl Try.ntmps27 rfl ?_
  have hS := St.start w0
  refine seq ?_
  refine region ?_
  refine sv (yAsg rfl) ?_
  refine nil ?_
  show Code.wp _ _ _ _ _
  refine seq ?_
  refine seq ?_
  refine region ?_
  refine sv (yMove rfl) ?_
  refine sv (yLen rfl Try.underlying62) ?_
  refine sv (yMove rfl) ?_
  refine sv (yLen rfl Try.underlying62) ?_
  refine sv (yNeq rfl rfl) ?_
  refine nil ?_
  show Code.wp _ _ _ _ _
  refine cond rfl (fun c10 => ?_) (fun c10 => ?_)
  ·
    simp only [Bool.and_eq_true, Bool.or_eq_true, Bool.and_eq_false_iff, Bool.or_eq_false_iff, decide_eq_true_eq, decide_eq_false_iff_not, Bool.not_eq_true, Bool.not_eq_false, Bool.not_not, Bool.not_eq_eq_eq_not, Bool.not_true, Bool.not_false, Bool.false_eq_true, Bool.true_eq_false, ne_eq, Decidable.not_not, not_false_eq_true, not_true_eq_false] at c10
    refine seq ?_
    refine region ?_
    refine sv (yAsg rfl) ?_
    refine nil ?_
    show Code.wp _ _ _ _ _
    refine wp_ret (thenR ?_)
    exact retV (res1 rfl (eqB (by rw [decide_eq_false (fun h => by rw [h] at c10; exact c10 rfl)]))) hS.ext
  ·
    simp only [Bool.and_eq_true, Bool.or_eq_true, Bool.and_eq_false_iff, Bool.or_eq_false_iff, decide_eq_true_eq, decide_eq_false_iff_not, Bool.not_eq_true, Bool.not_eq_false, Bool.not_not, Bool.not_eq_eq_eq_not, Bool.not_true, Bool.not_false, Bool.false_eq_true, Bool.true_eq_false, ne_eq, Decidable.not_not, not_false_eq_true, not_true_eq_false] at c10
    refine skip ?_
    show Code.wp _ _ _ _ _
    refine seq ?_
    refine seq ?_
    refine region ?_
    refine sv (yAsg rfl) ?_
    refine nil ?_
    show Code.wp _ _ _ _ _
    refine block ?_
    refine loop (fun f w zz => ∃ (k : Nat), f 0 = .slice aa la.length ca ∧ f 1 = .slice ab lb.length cb ∧ f 5 = .int .i64 (k : Int) ∧ StX [] w0 w [] ∧ (k ≤ la.length) ∧ (∀ i, i < k → la[i]? = lb[i]?) ∧ zz = la.length - k) _ ⟨_, rfl, 0, rfl, rfl, rfl, hS, (Nat.zero_le _), (fun i hi => absurd hi (Nat.not_lt_zero i)), rfl⟩ ?_
    clear hS
    rintro f w _ ⟨k, h0, h1, h5, hS, hk, hI, rfl⟩
    refine seq ?_
    refine seq ?_
    refine region ?_
    refine sv (yMove h5) ?_
    refine sv (yMove h0) ?_
    refine sv (yLen rfl Try.underlying62) ?_
    refine sv (yLss rfl rfl) ?_
    refine nil ?_
    show Code.wp _ _ _ _ _
    refine cond rfl (fun c14 => ?_) (fun c14 => ?_)
    ·
      simp only [Bool.and_eq_true, Bool.or_eq_true, Bool.and_eq_false_iff, Bool.or_eq_false_iff, decide_eq_true_eq, decide_eq_false_iff_not, Bool.not_eq_true, Bool.not_eq_false, Bool.not_not, Bool.not_eq_eq_eq_not, Bool.not_true, Bool.not_false, Bool.false_eq_true, Bool.true_eq_false, ne_eq, Decidable.not_not, not_false_eq_true, not_true_eq_false] at c14
      obtain ⟨x, hx, hd⟩ := drop_of (l := la) (k := k) (by omega)
      obtain ⟨b, o, cs, ha, hlen, hcs, hR⟩ := hela (k) (by omega)
      obtain rfl : x = la[k] := (List.getElem?_eq_some_iff.1 hx).2.symm
      generalize la[k] = x at hx hd hR
      obtain ⟨rfl, _⟩ := hR
      obtain ⟨y, hxq, hdq⟩ := drop_of (l := lb) (k := k) (by omega)
      obtain ⟨bq, oq, csq, haq, hlenq, hcsq, hRq⟩ := helb (k) (by omega)
      obtain rfl : y = lb[k] := (List.getElem?_eq_some_iff.1 hxq).2.symm
      generalize lb[k] = y at hxq hdq hRq
      obtain ⟨rfl, _⟩ := hRq
      refine skip ?_
      show Code.wp _ _ _ _ _
      refine seq ?_
      refine block ?_
      refine seq ?_
      refine region_draw mixed (by kernel_rfl) hS ?_
      refine qv (fun w hS => (yMove h0)) ?_
      refine qv (fun w hS => (yMove h5)) ?_
      refine qv (fun w hS => (yIxa rfl ha rfl Try.runUnderlying62 Try.sizeOf86 (by omega) (by omega))) ?_
      refine qv (fun w hS => (yLdA rfl Try.isAgg86 Try.sizeOf86 (hcs.ext hS.ext) rfl)) ?_
      refine qv (fun w hS => (yMove h1)) ?_
      refine qv (fun w hS => (yMove h5)) ?_
      refine qv (fun w hS => (yIxa rfl haq rfl Try.runUnderlying62 Try.sizeOf86 (by omega) (by omega))) ?_
      refine qv (fun w hS => (yLdA rfl Try.isAgg86 Try.sizeOf86 (hcsq.ext hS.ext) rfl)) ?_
      refine qv (fun w hS => (neS86 rfl rfl)) ?_
      clear hS; refine qnil (fun w hS => ?_)
      show Code.wp _ _ _ _ _
      refine cond rfl (fun c25 => ?_) (fun c25 => ?_)
      ·
        skip
        have hne : x ≠ y := fun h => by subst h; simp at c25
        refine seq ?_
        refine region ?_
        refine sv (yAsg rfl) ?_
        refine nil ?_
        show Code.wp _ _ _ _ _
        refine wp_ret (blockR (thenR (thenR (blockR (thenR ?_)))))
        exact retV (res1 rfl (eqB (by rw [decide_eq_false (ne_of_get hx hxq hne)]))) hS.ext
      ·
        skip
        have hxy : x = y := by cases x; cases y; simp at c25; simp [c25]
        refine skip ?_
        show Code.wp _ _ _ _ _
        refine region ?_
        refine sv (yMove h5) ?_
        refine sv (yAdd rfl rfl ⟨by omega, by omega⟩) ?_
        refine sv (yAsg rfl) ?_
        refine nil ?_
        exact ⟨_, _, rfl, ⟨k + 1, h0, h1, rfl, hS, (by omega), (snoc hI (by rw [hx, hxq, hxy])), rfl⟩, by omega⟩
    ·
      simp only [Bool.and_eq_true, Bool.or_eq_true, Bool.and_eq_false_iff, Bool.or_eq_false_iff, decide_eq_true_eq, decide_eq_false_iff_not, Bool.not_eq_true, Bool.not_eq_false, Bool.not_not, Bool.not_eq_eq_eq_not, Bool.not_true, Bool.not_false, Bool.false_eq_true, Bool.true_eq_false, ne_eq, Decidable.not_not, not_false_eq_true, not_true_eq_false] at c14
      refine exit ?_
      show Code.wp _ _ _ _ _
      refine seq ?_
      refine region ?_
      refine sv (yAsg rfl) ?_
      refine nil ?_
      show Code.wp _ _ _ _ _
      refine wp_ret ?_
      exact retV (res1 rfl (eqB (by rw [decide_eq_true (eq_of_get (by omega) (fun i hi => hI i (by omega)))]))) hS.ext
end Go.Proofs.Ytghgnofilbnbaaa
/- part Ck33 -/
namespace Go.Proofs.Ytghgnofilbnbaaa
open Go Bx
set_option maxHeartbeats 4000000 in
/-- barrage/barragelaw10.allowed -/
theorem c_allowed {c : Crew} {cs ss : List Value} {s : Scr} {w0 : World} (h : RCrew w0 cs c) (hs : RScr w0 ss s) {start : Int} {l : List Int} {v : Value} (hl : Sl w0 1 RInt v l) (hs0 : (scriptF c s).2 = 0) (hm : 0 ≤ start ∧ start ≤ 100000) : CE Try.prog 36 #[.agg cs.toArray, .agg ss.toArray, .int .i64 start, v] w0 (fun u w' => (∃ b : Bool, u = .bool b ∧ (b = true ↔ AllowP c s start l)) ∧ Ext w0 w') := by
  obtain ⟨ov, kv, nv, rfl, hso, hsk, hsn, hrm⟩ := id h
  obtain ⟨a, cap, rfl, hcap, hmx, hel⟩ := id hso
  obtain ⟨sv, rfl, hsz, hst⟩ := id hs
  obtain ⟨ax, cps, rfl, hscap, hsmx, hels⟩ := id hst
  obtain ⟨al, cl, rfl, hlcap, hlmx, hell⟩ := id hl
  have hok := scrOk_of hs0
  have hlen := hok.len
  refine enter Try.func36 rfl Try.ntmps36 rfl ?_
  have hS := St.start w0
  refine seq ?_
  refine region ?_
  refine sbox hS rfl rfl ?_; clear hS; intro b4 w hS
  refine sbox hS rfl rfl ?_; clear hS; intro b5 w hS
  refine sv (yAsg rfl) ?_
  refine nil ?_
  show Code.wp _ _ _ _ _
  refine seq ?_
  refine seq ?_
  refine region ?_
  refine sv (yMove rfl) ?_
  refine sv (yLen rfl Try.underlying30) ?_
  refine sv (fa29_1 rfl) ?_
  refine sv (yLdB rfl Try.isAgg27 (hS.at _) rfl) ?_
  refine sv (yLen rfl Try.underlying27) ?_
  refine sv (yNeq rfl rfl) ?_
  refine nil ?_
  show Code.wp _ _ _ _ _
  refine cond rfl (fun c20 => ?_) (fun c20 => ?_)
  ·
    simp only [Bool.and_eq_true, Bool.or_eq_true, Bool.and_eq_false_iff, Bool.or_eq_false_iff, decide_eq_true_eq, decide_eq_false_iff_not, Bool.not_eq_true, Bool.not_eq_false, Bool.not_not, Bool.not_eq_eq_eq_not, Bool.not_true, Bool.not_false, Bool.false_eq_true, Bool.true_eq_false, ne_eq, Decidable.not_not, not_false_eq_true, not_true_eq_false] at c20
    refine seq ?_
    refine region ?_
    refine sv (yAsg rfl) ?_
    refine nil ?_
    show Code.wp _ _ _ _ _
    refine wp_ret (thenR ?_)
    refine retQ (res1 rfl rfl) ?_
    exact ⟨⟨false, rfl, fun hh => (by cases hh), fun hh => absurd hh.len (by omega)⟩, hS.ext⟩
  ·
    simp only [Bool.and_eq_true, Bool.or_eq_true, Bool.and_eq_false_iff, Bool.or_eq_false_iff, decide_eq_true_eq, decide_eq_false_iff_not, Bool.not_eq_true, Bool.not_eq_false, Bool.not_not, Bool.not_eq_eq_eq_not, Bool.not_true, Bool.not_false, Bool.false_eq_true, Bool.true_eq_false, ne_eq, Decidable.not_not, not_false_eq_true, not_true_eq_false] at c20
    refine skip ?_
    show Code.wp _ _ _ _ _
    refine seq ?_
    refine seq ?_
    refine region ?_
    refine sv (yAsg rfl) ?_
    refine nil ?_
    show Code.wp _ _ _ _ _
    refine block ?_
    refine loop (fun f w zz => ∃ (i : Nat), f 2 = .int .i64 start ∧ f 3 = .slice al l.length cl ∧ f 4 = .pointer (some ⟨b4, 0, none⟩) ∧ f 5 = .pointer (some ⟨b5, 0, none⟩) ∧ f 9 = .int .i64 (i : Int) ∧ StX [] w0 w [blk b5 [.string s.name, .slice ax s.steps.length cps] 29, blk b4 [.slice a c.ops.length cap, kv, nv] 26] ∧ (i ≤ l.length) ∧ (∀ j, j < i → ∀ x y, s.steps[j]? = some x → l[j]? = some y → (ableF c x.kind y).2.2 = 0 ∧ befP start l x + x.least ≤ y ∧ y ≤ befP start l x + x.most) ∧ zz = l.length - i) _ ⟨_, rfl, 0, rfl, rfl, rfl, rfl, rfl, hS, (Nat.zero_le _), (fun j hj => absurd hj (Nat.not_lt_zero j)), rfl⟩ ?_
    clear hS
    rintro f w _ ⟨i, h2, h3, h4, h5, h9, hS, hi, hA, rfl⟩
    refine seq ?_
    refine seq ?_
    refine region ?_
    refine sv (yMove h9) ?_
    refine sv (yMove h3) ?_
    refine sv (yLen rfl Try.underlying30) ?_
    refine sv (yLss rfl rfl) ?_
    refine nil ?_
    show Code.wp _ _ _ _ _
    refine cond rfl (fun c24 => ?_) (fun c24 => ?_)
    ·
      simp only [Bool.and_eq_true, Bool.or_eq_true, Bool.and_eq_false_iff, Bool.or_eq_false_iff, decide_eq_true_eq, decide_eq_false_iff_not, Bool.not_eq_true, Bool.not_eq_false, Bool.not_not, Bool.not_eq_eq_eq_not, Bool.not_true, Bool.not_false, Bool.false_eq_true, Bool.true_eq_false, ne_eq, Decidable.not_not, not_false_eq_true, not_true_eq_false] at c24
      refine skip ?_
      show Code.wp _ _ _ _ _
      refine seq ?_
      refine block ?_
      refine seq ?_
      refine region ?_
      obtain ⟨x, hxq, hdq⟩ := drop_of (l := s.steps) (k := i) (by omega)
      obtain ⟨bq, oq, csq, haq, hlenq, hcsq, hRq⟩ := hels (i) (by omega)
      obtain rfl : x = s.steps[i] := (List.getElem?_eq_some_iff.1 hxq).2.symm
      generalize s.steps[i] = x at hxq hdq hRq
      obtain ⟨rfl, hxi⟩ := hRq
      obtain ⟨y, hxy, hdz⟩ := drop_of (l := l) (k := i) (by omega)
      obtain ⟨bz, oz, csz, haz, hlenz, hcsz, hRz⟩ := hell (i) (by omega)
      obtain rfl : y = l[i] := (List.getElem?_eq_some_iff.1 hxy).2.symm
      generalize l[i] = y at hxy hdz hRz
      obtain ⟨rfl, hyi⟩ := hRz
      have hsx := hok.steps i x hxq
      have hx1 := hsx.after
      have hx2 := hsx.most
      have hx3 := hsx.least
      refine sv (fa29_1 h5) ?_
      refine sv (yLdB rfl Try.isAgg27 (hS.at _) rfl) ?_
      refine sv (yMove h9) ?_
      refine sv (yIxa rfl haq rfl Try.runUnderlying27 Try.sizeOf89 (by omega) (by omega)) ?_
      refine sv (yLdA rfl Try.isAgg89 Try.sizeOf89 (hcsq.ext hS.ext) rfl) ?_
      refine salloc hS Try.zeroValue89 rfl ?_; clear hS; intro b10 w hS
      refine sst hS rfl rfl Try.sizeOf89 rfl rfl rfl rfl ?_; clear hS; intro w hS
      refine nil ?_
      show Code.wp _ _ _ _ _
      refine seq ?_
      refine region ?_
      replace hS : StX [] w0 w (blk b10 (stpC x) 89 :: blk b5 [.string s.name, .slice ax s.steps.length cps] 29 :: blk b4 [.slice a c.ops.length cap, kv, nv] 26 :: []) := hS
      refine sv (yMove h2) ?_
      refine sv (yAsg rfl) ?_
      refine nil ?_
      show Code.wp _ _ _ _ _
      refine seq ?_
      refine seq ?_
      refine region ?_
      refine sv (fa89_2 rfl) ?_
      refine sv (yLdB rfl Try.isAgg3 (hS.at _) rfl) ?_
      refine sv (yMove h9) ?_
      refine sv (yGeq rfl rfl) ?_
      refine nil ?_
      show Code.wp _ _ _ _ _
      refine cond rfl (fun c36 => ?_) (fun c36 => ?_)
      ·
        simp only [Bool.and_eq_true, Bool.or_eq_true, Bool.and_eq_false_iff, Bool.or_eq_false_iff, decide_eq_true_eq, decide_eq_false_iff_not, Bool.not_eq_true, Bool.not_eq_false, Bool.not_not, Bool.not_eq_eq_eq_not, Bool.not_true, Bool.not_false, Bool.false_eq_true, Bool.true_eq_false, ne_eq, Decidable.not_not, not_false_eq_true, not_true_eq_false] at c36
        exfalso; omega
      ·
        simp only [Bool.and_eq_true, Bool.or_eq_true, Bool.and_eq_false_iff, Bool.or_eq_false_iff, decide_eq_true_eq, decide_eq_false_iff_not, Bool.not_eq_true, Bool.not_eq_false, Bool.not_not, Bool.not_eq_eq_eq_not, Bool.not_true, Bool.not_false, Bool.false_eq_true, Bool.true_eq_false, ne_eq, Decidable.not_not, not_false_eq_true, not_true_eq_false] at c36
        refine skip ?_
        show Code.wp _ _ _ _ _
        refine seqJ (n := 81) (fun f w => f 2 = .int .i64 start ∧ f 3 = .slice al l.length cl ∧ f 4 = .pointer (some ⟨b4, 0, none⟩) ∧ f 5 = .pointer (some ⟨b5, 0, none⟩) ∧ f 9 = .int .i64 (i : Int) ∧ f 10 = .pointer (some ⟨b10, 0, none⟩) ∧ f 11 = .int .i64 (befP start l x) ∧ StX [] w0 w [blk b10 (stpC x) 89, blk b5 [.string s.name, .slice ax s.steps.length cps] 29, blk b4 [.slice a c.ops.length cap, kv, nv] 26] ∧ (0 ≤ befP start l x ∧ befP start l x ≤ 100000) ∧ True) ?_ ?_
        ·
          refine seq ?_
          refine region ?_
          refine sv (fa89_2 rfl) ?_
          refine sv (yLdB rfl Try.isAgg3 (hS.at _) rfl) ?_
          refine sv (yGeq rfl rfl) ?_
          refine nil ?_
          show Code.wp _ _ _ _ _
          refine cond rfl (fun c39 => ?_) (fun c39 => ?_)
          ·
            simp only [Bool.and_eq_true, Bool.or_eq_true, Bool.and_eq_false_iff, Bool.or_eq_false_iff, decide_eq_true_eq, decide_eq_false_iff_not, Bool.not_eq_true, Bool.not_eq_false, Bool.not_not, Bool.not_eq_eq_eq_not, Bool.not_true, Bool.not_false, Bool.false_eq_true, Bool.true_eq_false, ne_eq, Decidable.not_not, not_false_eq_true, not_true_eq_false] at c39
            refine region ?_
            obtain ⟨q, hq⟩ := Int.eq_ofNat_of_zero_le c39
            obtain ⟨v, hxv, hdv⟩ := drop_of (l := l) (k := q) (by omega)
            obtain ⟨bv, ov, csv, hav, hlenv, hcsv, hRv⟩ := hell (q) (by omega)
            obtain rfl : v = l[q] := (List.getElem?_eq_some_iff.1 hxv).2.symm
            generalize l[q] = v at hxv hdv hRv
            obtain ⟨rfl, hvi⟩ := hRv
            refine sv (yMove h3) ?_
            refine sv (fa89_2 rfl) ?_
            refine sv (yLdB rfl Try.isAgg3 (hS.at _) rfl) ?_
            refine sv (yIxa rfl hav (rfl.trans (congrArg (Value.int .i64) hq)) Try.runUnderlying30 Try.sizeOf3 (by omega) (by omega)) ?_
            refine sv (yLd rfl Try.isAgg3 ((hcsv.ext hS.ext).one)) ?_
            refine sv (yAsg rfl) ?_
            refine nil ?_
            have hsq := hA q (by omega) _ v (List.getElem?_eq_getElem (show q < s.steps.length by omega)) hxv
            have hqk := ableF_min (crew_of hs0) (hok.steps q _ (List.getElem?_eq_getElem (show q < s.steps.length by omega))).kind hsq.1
            exact ⟨_, rfl, h2, h3, h4, h5, h9, rfl, rfl.trans (congrArg (Value.int .i64) (befP_at hq hxv).symm), hS, (by rw [befP_at hq hxv]; exact hqk), trivial⟩
          ·
            simp only [Bool.and_eq_true, Bool.or_eq_true, Bool.and_eq_false_iff, Bool.or_eq_false_iff, decide_eq_true_eq, decide_eq_false_iff_not, Bool.not_eq_true, Bool.not_eq_false, Bool.not_not, Bool.not_eq_eq_eq_not, Bool.not_true, Bool.not_false, Bool.false_eq_true, Bool.true_eq_false, ne_eq, Decidable.not_not, not_false_eq_true, not_true_eq_false] at c39
            refine skip ?_
            exact ⟨_, rfl, h2, h3, h4, h5, h9, rfl, rfl.trans (congrArg (Value.int .i64) (befP_neg (by omega)).symm), hS, (by rw [befP_neg (by omega)]; exact hm), trivial⟩
        ·
          clear hS; rintro f w ⟨h2, h3, h4, h5, h9, h10, h11, hS, hbb, -⟩
          refine seq ?_
          refine region_draw mixed (by kernel_rfl) hS ?_
          refine qv (fun w hS => (yLdBA h4 Try.isAgg26 Try.sizeOf26 (hS.at _) rfl rfl)) ?_
          refine qv (fun w hS => (fa89_0 h10)) ?_
          refine qv (fun w hS => (yLdB rfl Try.isAgg3 (hS.at _) rfl)) ?_
          refine qv (fun w hS => (yMove h3)) ?_
          refine qv (fun w hS => (yMove h9)) ?_
          refine qv (fun w hS => (yIxa rfl haz rfl Try.runUnderlying30 Try.sizeOf3 (by omega) (by omega))) ?_
          refine qv (fun w hS => (yLd rfl Try.isAgg3 ((hcsz.ext hS.ext).one))) ?_
          refine qcall Try.call29 (.cons rfl (.cons rfl (.cons rfl .nil))) (fun w hS => (c_Able (h.ext hS.ext))) ?_
          refine qv (fun w hS => (yMove rfl)) ?_
          refine qv (fun w hS => (yExt rfl rfl)) ?_
          refine qv (fun w hS => (yExt rfl rfl)) ?_
          refine qv (fun w hS => (yExt rfl rfl)) ?_
          refine qv (fun w hS => (yAsg rfl)) ?_
          refine qv (fun w hS => (yAsg rfl)) ?_
          refine qv (fun w hS => (yAsg rfl)) ?_
          clear hS; refine qnil (fun w hS => ?_)
          show Code.wp _ _ _ _ _
          refine seq ?_
          refine region_draw mixed (by kernel_rfl) hS ?_
          refine qv (fun w hS => (yMove rfl)) ?_
          refine qv (fun w hS => (yNeq rfl rfl)) ?_
          refine qv (fun w hS => (yMove rfl)) ?_
          refine qg rfl rfl rfl (fun g w hS => (yMove h3)) (fun v60 g60 => ?_)
          refine qg rfl rfl rfl (fun g w hS => (yMove h9)) (fun v61 g61 => ?_)
          refine qg rfl rfl rfl (fun g w hS => (yIxa (g60.1 g) haz (g61.1 g) Try.runUnderlying30 Try.sizeOf3 (by omega) (by omega))) (fun v62 g62 => ?_)
          refine qg rfl rfl rfl (fun g w hS => (yLd (g62.1 g) Try.isAgg3 ((hcsz.ext hS.ext).one))) (fun v63 g63 => ?_)
          refine qg rfl rfl rfl (fun g w hS => (yMove h11)) (fun v64 g64 => ?_)
          refine qg rfl rfl rfl (fun g w hS => (fa89_3 h10)) (fun v65 g65 => ?_)
          refine qg rfl rfl rfl (fun g w hS => (yLdB (g65.1 g) Try.isAgg3 (hS.at _) rfl)) (fun v66 g66 => ?_)
          refine qg rfl rfl rfl (fun g w hS => (yAdd (g64.1 g) (g66.1 g) ⟨by omega, by omega⟩)) (fun v67 g67 => ?_)
          refine qg rfl rfl rfl (fun g w hS => (yLss (g63.1 g) (g67.1 g))) (fun v68 g68 => ?_)
          refine qv (fun w hS => (yOr rfl rfl (fun hB => (g68.1 hB)))) ?_
          refine qv (fun w hS => (yMove rfl)) ?_
          refine qg rfl rfl rfl (fun g w hS => (yMove h3)) (fun v71 g71 => ?_)
          refine qg rfl rfl rfl (fun g w hS => (yMove h9)) (fun v72 g72 => ?_)
          refine qg rfl rfl rfl (fun g w hS => (yIxa (g71.1 g) haz (g72.1 g) Try.runUnderlying30 Try.sizeOf3 (by omega) (by omega))) (fun v73 g73 => ?_)
          refine qg rfl rfl rfl (fun g w hS => (yLd (g73.1 g) Try.isAgg3 ((hcsz.ext hS.ext).one))) (fun v74 g74 => ?_)
          refine qg rfl rfl rfl (fun g w hS => (yMove h11)) (fun v75 g75 => ?_)
          refine qg rfl rfl rfl (fun g w hS => (fa89_4 h10)) (fun v76 g76 => ?_)
          refine qg rfl rfl rfl (fun g w hS => (yLdB (g76.1 g) Try.isAgg3 (hS.at _) rfl)) (fun v77 g77 => ?_)
          refine qg rfl rfl rfl (fun g w hS => (yAdd (g75.1 g) (g77.1 g) ⟨by omega, by omega⟩)) (fun v78 g78 => ?_)
          refine qg rfl rfl rfl (fun g w hS => (yGtr (g74.1 g) (g78.1 g))) (fun v79 g79 => ?_)
          refine qv (fun w hS => (yOr rfl rfl (fun hB => (g79.1 hB)))) ?_
          clear hS; refine qnil (fun w hS => ?_)
          show Code.wp _ _ _ _ _
          refine cond rfl (fun c80 => ?_) (fun c80 => ?_)
          ·
            simp only [Bool.and_eq_true, Bool.or_eq_true, Bool.and_eq_false_iff, Bool.or_eq_false_iff, decide_eq_true_eq, decide_eq_false_iff_not, Bool.not_eq_true, Bool.not_eq_false, Bool.not_not, Bool.not_eq_eq_eq_not, Bool.not_true, Bool.not_false, Bool.false_eq_true, Bool.true_eq_false, ne_eq, Decidable.not_not, not_false_eq_true, not_true_eq_false] at c80
            refine seq ?_
            refine region ?_
            refine sv (yAsg rfl) ?_
            refine nil ?_
            show Code.wp _ _ _ _ _
            refine wp_ret (blockR (thenR (thenR (blockR (thenR ?_)))))
            refine retQ (res1 rfl rfl) ?_
            exact ⟨⟨false, rfl, fun hh => (by cases hh), fun hh => by have h9 := hh.at_ i x y hxq hxy; rcases c80 with (h1 | h1) | h1; exact absurd h9.1 h1; omega; omega⟩, hS.ext⟩
          ·
            simp only [Bool.and_eq_true, Bool.or_eq_true, Bool.and_eq_false_iff, Bool.or_eq_false_iff, decide_eq_true_eq, decide_eq_false_iff_not, Bool.not_eq_true, Bool.not_eq_false, Bool.not_not, Bool.not_eq_eq_eq_not, Bool.not_true, Bool.not_false, Bool.false_eq_true, Bool.true_eq_false, ne_eq, Decidable.not_not, not_false_eq_true, not_true_eq_false] at c80
            refine skip ?_
            show Code.wp _ _ _ _ _
            refine region ?_
            refine sv (yMove h9) ?_
            refine sv (yAdd rfl rfl ⟨by omega, by omega⟩) ?_
            refine sv (yAsg rfl) ?_
            refine nil ?_
            exact ⟨_, _, rfl, ⟨i + 1, h2, h3, h4, h5, rfl, (hS.sub (.cons _ (List.Sublist.refl _))), (by omega), (snoc hA (fun x' y' hx' hy' => by cases Option.some.inj (hxq.symm.trans hx'); cases Option.some.inj (hxy.symm.trans hy'); exact ⟨c80.1.1, by omega, by omega⟩)), rfl⟩, by omega⟩
    ·
      simp only [Bool.and_eq_true, Bool.or_eq_true, Bool.and_eq_false_iff, Bool.or_eq_false_iff, decide_eq_true_eq, decide_eq_false_iff_not, Bool.not_eq_true, Bool.not_eq_false, Bool.not_not, Bool.not_eq_eq_eq_not, Bool.not_true, Bool.not_false, Bool.false_eq_true, Bool.true_eq_false, ne_eq, Decidable.not_not, not_false_eq_true, not_true_eq_false] at c24
      refine exit ?_
      show Code.wp _ _ _ _ _
      refine seq ?_
      refine region ?_
      refine sv (yAsg rfl) ?_
      refine nil ?_
      show Code.wp _ _ _ _ _
      refine wp_ret ?_
      refine retQ (res1 rfl rfl) ?_
      exact ⟨⟨true, rfl, fun _ => ⟨by omega, fun j x y hx hy => hA j (by have := (List.getElem?_eq_some_iff.1 hy).1; omega) x y hx hy⟩, fun _ => rfl⟩, hS.ext⟩
end Go.Proofs.Ytghgnofilbnbaaa
/- part Ck34 -/
namespace Go.Proofs.Ytghgnofilbnbaaa
open Go Bx
set_option maxHeartbeats 8000000 in
/-- barrage/barragelaw10.CrewFirst -/
theorem w_CrewFirst {c : Crew} {cs ds : List Value} {d : Drl} {w0 : World} (h : RCrew w0 cs c) (hd : RDrl w0 ds d) {l : List Int} {v : Value} (hl : Sl w0 1 RInt v l) : CV Try.prog 12 #[.agg cs.toArray, .agg ds.toArray, v] w0 (.bool true) := by
  obtain ⟨ov, kv, nv, rfl, hso, hsk, hsn, hrm⟩ := id h
  obtain ⟨a, cap, rfl, hcap, hmx, hel⟩ := id hso
  obtain ⟨sv, acv, rfl, hsz, hst, hsi, hac⟩ := id hd
  obtain ⟨ax, cps, rfl, hscap, hsmx, hels⟩ := id hst
  have hs : RScr w0 [.string d.script.name, .slice ax d.script.steps.length cps] d.script := ⟨_, rfl, hsz, hst⟩
  obtain ⟨al, cl, rfl, hlcap, hlmx, hell⟩ := id hl
  refine enter Try.func12 rfl Try.ntmps12 rfl ?_
  have hS := St.start w0
  refine seq ?_
  refine region ?_
  refine sbox hS rfl rfl ?_; clear hS; intro b3 w hS
  refine sbox hS rfl rfl ?_; clear hS; intro b4 w hS
  refine sv (yAsg rfl) ?_
  refine nil ?_
  show Code.wp _ _ _ _ _
  refine seq ?_
  refine region ?_
  refine sv (yLdBA rfl Try.isAgg26 Try.sizeOf26 (hS.at _) rfl rfl) ?_
  refine sv (fa39_0 rfl) ?_
  refine sv (yLdBA rfl Try.isAgg29 Try.sizeOf29 (hS.at _) rfl rfl) ?_
  refine sv (fa39_1 rfl) ?_
  refine sv (yLdB rfl Try.isAgg3 (hS.at _) rfl) ?_
  refine scall Try.call15 (.cons rfl (.cons rfl (.cons rfl .nil))) (c_Plan (h.ext hS.ext) (hs.ext hS.ext)) ?_
  rintro _ w ⟨pv, rfl, hM⟩; replace hS := hS.call1 hM; clear hM
  obtain ⟨ap, cp, rfl⟩ := row_shape (hS.row pv)
  refine sv (yMove rfl) ?_
  refine sv (yExt rfl rfl) ?_
  refine sv (yExt rfl rfl) ?_
  refine sv (yAsg rfl) ?_
  refine sv (yAsg rfl) ?_
  refine nil ?_
  show Code.wp _ _ _ _ _
  refine seq ?_
  refine region ?_
  refine sv (yLdBA rfl Try.isAgg26 Try.sizeOf26 (hS.at _) rfl rfl) ?_
  refine sv (fa39_0 rfl) ?_
  refine sv (yLdBA rfl Try.isAgg29 Try.sizeOf29 (hS.at _) rfl rfl) ?_
  refine scall Try.call25 (.cons rfl (.cons rfl .nil)) (c_Windows (h.ext hS.ext) (hs.ext hS.ext)) ?_
  rintro _ w ⟨wv, rfl, hM⟩; replace hS := hS.call1 hM; clear hM
  obtain ⟨aw, cw, rfl⟩ := row_shape (hS.row wv)
  refine sv (yMove rfl) ?_
  refine sv (yExt rfl rfl) ?_
  refine sv (yExt rfl rfl) ?_
  refine sv (yAsg rfl) ?_
  refine sv (yAsg rfl) ?_
  refine nil ?_
  show Code.wp _ _ _ _ _
  refine seq ?_
  refine seq ?_
  refine region ?_
  refine sv (yMove rfl) ?_
  refine sv (yNeq rfl rfl) ?_
  refine sv (yMove rfl) ?_
  refine sg rfl rfl rfl (fun g => (yMove rfl)) (fun v33 g33 => ?_)
  refine sg rfl rfl rfl (fun g => (yNeq (g33.1 g) rfl)) (fun v34 g34 => ?_)
  refine sv (yAnd rfl (fun hB => (g34.1 hB)) rfl) ?_
  refine sv (yMove rfl) ?_
  refine sg rfl rfl rfl (fun g => (yMove rfl)) (fun v37 g37 => ?_)
  refine sg rfl rfl rfl (fun g => (yNeq (g37.1 g) rfl)) (fun v38 g38 => ?_)
  refine sv (yOr rfl rfl (fun hB => (g38.1 hB))) ?_
  refine nil ?_
  show Code.wp _ _ _ _ _
  refine cond rfl (fun c39 => ?_) (fun c39 => ?_)
  ·
    simp only [Bool.and_eq_true, Bool.or_eq_true, Bool.and_eq_false_iff, Bool.or_eq_false_iff, decide_eq_true_eq, decide_eq_false_iff_not, Bool.not_eq_true, Bool.not_eq_false, Bool.not_not, Bool.not_eq_eq_eq_not, Bool.not_true, Bool.not_false, Bool.false_eq_true, Bool.true_eq_false, ne_eq, Decidable.not_not, not_false_eq_true, not_true_eq_false] at c39
    refine seq ?_
    refine region ?_
    refine sv (yMove rfl) ?_
    refine sv (yNeq rfl rfl) ?_
    refine sv (yMove rfl) ?_
    refine sgc hS rfl rfl rfl Try.call18 (fun g => .nil) (fun g => c_Awake) ?_; clear hS; intro v43 w hS g43
    refine sv (yAnd rfl (fun hB => (g43.1 hB)) rfl) ?_
    refine sv (yAsg rfl) ?_
    refine nil ?_
    show Code.wp _ _ _ _ _
    refine wp_ret (thenR ?_)
    exact retV (res1 rfl (eqB (by rw [Bool.and_true]; exact (decide_eq_true (first_bad c39)).symm))) hS.ext
  ·
    simp only [Bool.and_eq_true, Bool.or_eq_true, Bool.and_eq_false_iff, Bool.or_eq_false_iff, decide_eq_true_eq, decide_eq_false_iff_not, Bool.not_eq_true, Bool.not_eq_false, Bool.not_not, Bool.not_eq_eq_eq_not, Bool.not_true, Bool.not_false, Bool.false_eq_true, Bool.true_eq_false, ne_eq, Decidable.not_not, not_false_eq_true, not_true_eq_false] at c39
    have hs0 : (scriptF c d.script).2 = 0 := c39.2
    have hpe : planE c d.script d.start = 0 ∨ planE c d.script d.start = 9 := c39.1
    have hm := plan_start hs0 hpe
    have hlen := (scrOk_of hs0).len
    refine skip ?_
    show Code.wp _ _ _ _ _
    refine seq ?_
    refine region ?_
    refine sv (yLdBA rfl Try.isAgg26 Try.sizeOf26 (hS.at _) rfl rfl) ?_
    refine sv (fa39_0 rfl) ?_
    refine sv (yLdBA rfl Try.isAgg29 Try.sizeOf29 (hS.at _) rfl rfl) ?_
    refine sv (fa39_1 rfl) ?_
    refine sv (yLdB rfl Try.isAgg3 (hS.at _) rfl) ?_
    refine sv (yMove rfl) ?_
    refine scall Try.call36 (.cons rfl (.cons rfl (.cons rfl (.cons rfl .nil)))) (c_allowed (h.ext hS.ext) (hs.ext hS.ext) (hl.ext RInt.stays hS.ext) hs0 hm) ?_
    rintro _ w ⟨⟨can, rfl, hcan⟩, hE⟩; replace hS := hS.step hE; clear hE
    refine sv (yAsg rfl) ?_
    refine nil ?_
    show Code.wp _ _ _ _ _
    refine seq ?_
    refine seq ?_
    refine region ?_
    refine sv (yMove rfl) ?_
    refine sv (yEql rfl rfl) ?_
    refine nil ?_
    show Code.wp _ _ _ _ _
    refine cond rfl (fun c53 => ?_) (fun c53 => ?_)
    ·
      simp only [Bool.and_eq_true, Bool.or_eq_true, Bool.and_eq_false_iff, Bool.or_eq_false_iff, decide_eq_true_eq, decide_eq_false_iff_not, Bool.not_eq_true, Bool.not_eq_false, Bool.not_not, Bool.not_eq_eq_eq_not, Bool.not_true, Bool.not_false, Bool.false_eq_true, Bool.true_eq_false, ne_eq, Decidable.not_not, not_false_eq_true, not_true_eq_false] at c53
      have hcf : can = false := by
        cases hc : can with
        | false => rfl
        | true => exact absurd (hcan.1 hc) ((plan_down hs0 c53).2 _)
      refine seq ?_
      refine region ?_
      refine sv (yMove rfl) ?_
      refine sv (yNot rfl) ?_
      refine sv (yMove rfl) ?_
      refine sgc hS rfl rfl rfl Try.call18 (fun g => .nil) (fun g => c_Awake) ?_; clear hS; intro v57 w hS g57
      refine sv (yAnd rfl (fun hB => (g57.1 hB)) rfl) ?_
      refine sv (yAsg rfl) ?_
      refine nil ?_
      show Code.wp _ _ _ _ _
      refine wp_ret (thenR ?_)
      exact retV (res1 rfl (eqB (by rw [hcf]; rfl))) hS.ext
    ·
      simp only [Bool.and_eq_true, Bool.or_eq_true, Bool.and_eq_false_iff, Bool.or_eq_false_iff, decide_eq_true_eq, decide_eq_false_iff_not, Bool.not_eq_true, Bool.not_eq_false, Bool.not_not, Bool.not_eq_eq_eq_not, Bool.not_true, Bool.not_false, Bool.false_eq_true, Bool.true_eq_false, ne_eq, Decidable.not_not, not_false_eq_true, not_true_eq_false] at c53
      have hP : planE c d.script d.start = 0 := hpe.resolve_right c53
      obtain ⟨-, -, hgo, hpl⟩ := plan_ok hP
      have hwl : (winF c d.script).length = d.script.steps.length := by rw [winF_ok hs0, winL_len]
      have hpb := good_bd hs0 hgo hpl
      refine skip ?_
      show Code.wp _ _ _ _ _
      refine seq ?_
      refine seq ?_
      refine region ?_
      refine sv (yLdBA rfl Try.isAgg26 Try.sizeOf26 (hS.at _) rfl rfl) ?_
      refine sv (fa39_0 rfl) ?_
      refine sv (yLdBA rfl Try.isAgg29 Try.sizeOf29 (hS.at _) rfl rfl) ?_
      refine sv (fa39_1 rfl) ?_
      refine sv (yLdB rfl Try.isAgg3 (hS.at _) rfl) ?_
      refine sv (yMove rfl) ?_
      refine scall Try.call36 (.cons rfl (.cons rfl (.cons rfl (.cons rfl .nil)))) (c_allowed (h.ext hS.ext) (hs.ext hS.ext) (sl_ints (hS.row (.slice ap (planL c d.script d.start).length cp)) rfl (fun y hy => by have := hpb y hy; exact ⟨by omega, by omega⟩)) hs0 hm) ?_
      rintro _ w ⟨⟨can2, rfl, hcan2⟩, hE⟩; replace hS := hS.step hE; clear hE
      refine sv (yNot rfl) ?_
      refine sv (yMove rfl) ?_
      refine sg rfl rfl rfl (fun g => (yMove rfl)) (fun v68 g68 => ?_)
      refine sg rfl rfl rfl (fun g => (yLen (g68.1 g) Try.underlying62)) (fun v69 g69 => ?_)
      refine sg rfl rfl rfl (fun g => (yMove rfl)) (fun v70 g70 => ?_)
      refine sg rfl rfl rfl (fun g => (yLen (g70.1 g) Try.underlying30)) (fun v71 g71 => ?_)
      refine sg rfl rfl rfl (fun g => (yNeq (g69.1 g) (g71.1 g))) (fun v72 g72 => ?_)
      refine sv (yOr rfl rfl (fun hB => (g72.1 hB))) ?_
      refine nil ?_
      show Code.wp _ _ _ _ _
      refine cond rfl (fun c73 => ?_) (fun c73 => ?_)
      ·
        simp only [Bool.and_eq_true, Bool.or_eq_true, Bool.and_eq_false_iff, Bool.or_eq_false_iff, decide_eq_true_eq, decide_eq_false_iff_not, Bool.not_eq_true, Bool.not_eq_false, Bool.not_not, Bool.not_eq_eq_eq_not, Bool.not_true, Bool.not_false, Bool.false_eq_true, Bool.true_eq_false, ne_eq, Decidable.not_not, not_false_eq_true, not_true_eq_false] at c73
        exfalso
        have h2 := hcan2.2 (good_allow hs0 hgo hpl)
        rw [h2] at c73
        rcases c73 with h1 | h1
        · cases h1
        · omega
      ·
        simp only [Bool.and_eq_true, Bool.or_eq_true, Bool.and_eq_false_iff, Bool.or_eq_false_iff, decide_eq_true_eq, decide_eq_false_iff_not, Bool.not_eq_true, Bool.not_eq_false, Bool.not_not, Bool.not_eq_eq_eq_not, Bool.not_true, Bool.not_false, Bool.false_eq_true, Bool.true_eq_false, ne_eq, Decidable.not_not, not_false_eq_true, not_true_eq_false] at c73
        refine skip ?_
        show Code.wp _ _ _ _ _
        refine seq ?_
        refine seq ?_
        refine region ?_
        refine sv (yAsg rfl) ?_
        refine nil ?_
        show Code.wp _ _ _ _ _
        refine block ?_
        refine loop (fun f w zz => ∃ (i : Nat), f 2 = .slice al l.length cl ∧ f 4 = .pointer (some ⟨b4, 0, none⟩) ∧ f 7 = .slice ap (planL c d.script d.start).length cp ∧ f 9 = .slice aw (winF c d.script).length cw ∧ f 11 = .bool can ∧ f 12 = .int .i64 (i : Int) ∧ StX [] w0 w [rowI (.slice aw (winF c d.script).length cw) 86 2 (winF c d.script).length ((winF c d.script).flatMap pC), rowI (.slice ap (planL c d.script d.start).length cp) 3 1 (planL c d.script d.start).length ((planL c d.script d.start).flatMap Bx.encI), blk b4 [.string d.script.name, .slice ax d.script.steps.length cps, .int .i64 d.start, acv] 39] ∧ (i ≤ (planL c d.script d.start).length) ∧ zz = (planL c d.script d.start).length - i) _ ⟨_, rfl, 0, rfl, rfl, rfl, rfl, rfl, rfl, (hS.sub (.cons_cons _ (.cons_cons _ (.cons_cons _ (List.nil_sublist _))))), (Nat.zero_le _), rfl⟩ ?_
        clear hS
        rintro f w _ ⟨i, h2, h4, h7, h9, h11, h12, hS, hi, rfl⟩
        refine seq ?_
        refine seq ?_
        refine region ?_
        refine sv (yMove h12) ?_
        refine sv (yMove h7) ?_
        refine sv (yLen rfl Try.underlying30) ?_
        refine sv (yLss rfl rfl) ?_
        refine nil ?_
        show Code.wp _ _ _ _ _
        refine cond rfl (fun c77 => ?_) (fun c77 => ?_)
        ·
          simp only [Bool.and_eq_true, Bool.or_eq_true, Bool.and_eq_false_iff, Bool.or_eq_false_iff, decide_eq_true_eq, decide_eq_false_iff_not, Bool.not_eq_true, Bool.not_eq_false, Bool.not_not, Bool.not_eq_eq_eq_not, Bool.not_true, Bool.not_false, Bool.false_eq_true, Bool.true_eq_false, ne_eq, Decidable.not_not, not_false_eq_true, not_true_eq_false] at c77
          refine skip ?_
          show Code.wp _ _ _ _ _
          refine seq ?_
          refine block ?_
          refine seq ?_
          refine region_draw mixed (by kernel_rfl) hS ?_
          obtain ⟨y, hy, -⟩ := drop_of (l := planL c d.script d.start) (k := i) (by omega)
          obtain ⟨wi, hwi, -⟩ := drop_of (l := winF c d.script) (k := i) (by omega)
          have hyb := hpb y (List.mem_of_getElem? hy)
          have hgw := good_win hs0 hgo i y wi hy (by rw [← winF_ok hs0]; exact hwi)
          obtain ⟨gap, rfl, -⟩ := row_get (hS.row (.slice ap (planL c d.script d.start).length cp)) (by omega)
          obtain ⟨gaw, rfl, -⟩ := row_get (hS.row (.slice aw (winF c d.script).length cw)) (by omega)
          refine qv (fun w hS => (yMove h7)) ?_
          refine qv (fun w hS => (yMove h12)) ?_
          refine qv (fun w hS => (yIx0 rfl rfl Try.runUnderlying30 Try.sizeOf3 (by omega))) ?_
          refine qv (fun w hS => (yLd rfl Try.isAgg3 ((flat_cells0 (enc := Bx.encI) encI_len (row_at (hS.row (.slice (some ⟨gap, 0, none⟩) (planL c d.script d.start).length cp)) rfl (by omega)) hy).one))) ?_
          refine qv (fun w hS => (fa39_1 h4)) ?_
          refine qv (fun w hS => (yLdB rfl Try.isAgg3 (hS.at _) rfl)) ?_
          refine qv (fun w hS => (ySub rfl rfl ⟨by omega, by omega⟩)) ?_
          refine qv (fun w hS => (yMove h9)) ?_
          refine qv (fun w hS => (yMove h12)) ?_
          refine qv (fun w hS => (yIx0 rfl rfl Try.runUnderlying62 Try.sizeOf86 (by omega))) ?_
          refine qv (fun w hS => (fa86_0 rfl)) ?_
          refine qv (fun w hS => (yLd rfl Try.isAgg3 ((flat_cells0 pC_len (row_at (hS.row (.slice (some ⟨gaw, 0, none⟩) (winF c d.script).length cw)) rfl (by omega)) hwi).at (j := 0) rfl))) ?_
          refine qv (fun w hS => (yLss rfl rfl)) ?_
          refine qv (fun w hS => (yMove rfl)) ?_
          refine qg rfl rfl rfl (fun g w hS => (yMove h7)) (fun v94 g94 => ?_)
          refine qg rfl rfl rfl (fun g w hS => (yMove h12)) (fun v95 g95 => ?_)
          refine qg rfl rfl rfl (fun g w hS => (yIx0 (g94.1 g) (g95.1 g) Try.runUnderlying30 Try.sizeOf3 (by omega))) (fun v96 g96 => ?_)
          refine qg rfl rfl rfl (fun g w hS => (yLd (g96.1 g) Try.isAgg3 ((flat_cells0 (enc := Bx.encI) encI_len (row_at (hS.row (.slice (some ⟨gap, 0, none⟩) (planL c d.script d.start).length cp)) rfl (by omega)) hy).one))) (fun v97 g97 => ?_)
          refine qg rfl rfl rfl (fun g w hS => (fa39_1 h4)) (fun v98 g98 => ?_)
          refine qg rfl rfl rfl (fun g w hS => (yLdB (g98.1 g) Try.isAgg3 (hS.at _) rfl)) (fun v99 g99 => ?_)
          refine qg rfl rfl rfl (fun g w hS => (ySub (g97.1 g) (g99.1 g) ⟨by omega, by omega⟩)) (fun v100 g100 => ?_)
          refine qg rfl rfl rfl (fun g w hS => (yMove h9)) (fun v101 g101 => ?_)
          refine qg rfl rfl rfl (fun g w hS => (yMove h12)) (fun v102 g102 => ?_)
          refine qg rfl rfl rfl (fun g w hS => (yIx0 (g101.1 g) (g102.1 g) Try.runUnderlying62 Try.sizeOf86 (by omega))) (fun v103 g103 => ?_)
          refine qg rfl rfl rfl (fun g w hS => (fa86_1 (g103.1 g))) (fun v104 g104 => ?_)
          refine qg rfl rfl rfl (fun g w hS => (yLd (g104.1 g) Try.isAgg3 ((flat_cells0 pC_len (row_at (hS.row (.slice (some ⟨gaw, 0, none⟩) (winF c d.script).length cw)) rfl (by omega)) hwi).at (j := 1) rfl))) (fun v105 g105 => ?_)
          refine qg rfl rfl rfl (fun g w hS => (yGtr (g100.1 g) (g105.1 g))) (fun v106 g106 => ?_)
          refine qv (fun w hS => (yOr rfl rfl (fun hB => (g106.1 hB)))) ?_
          clear hS; refine qnil (fun w hS => ?_)
          show Code.wp _ _ _ _ _
          refine cond rfl (fun c107 => ?_) (fun c107 => ?_)
          ·
            simp only [Bool.and_eq_true, Bool.or_eq_true, Bool.and_eq_false_iff, Bool.or_eq_false_iff, decide_eq_true_eq, decide_eq_false_iff_not, Bool.not_eq_true, Bool.not_eq_false, Bool.not_not, Bool.not_eq_eq_eq_not, Bool.not_true, Bool.not_false, Bool.false_eq_true, Bool.true_eq_false, ne_eq, Decidable.not_not, not_false_eq_true, not_true_eq_false] at c107
            exfalso; omega
          ·
            simp only [Bool.and_eq_true, Bool.or_eq_true, Bool.and_eq_false_iff, Bool.or_eq_false_iff, decide_eq_true_eq, decide_eq_false_iff_not, Bool.not_eq_true, Bool.not_eq_false, Bool.not_not, Bool.not_eq_eq_eq_not, Bool.not_true, Bool.not_false, Bool.false_eq_true, Bool.true_eq_false, ne_eq, Decidable.not_not, not_false_eq_true, not_true_eq_false] at c107
            refine skip ?_
            show Code.wp _ _ _ _ _
            refine region ?_
            refine sv (yMove h12) ?_
            refine sv (yAdd rfl rfl ⟨by omega, by omega⟩) ?_
            refine sv (yAsg rfl) ?_
            refine nil ?_
            exact ⟨_, _, rfl, ⟨i + 1, h2, h4, h7, h9, h11, rfl, hS, (by omega), rfl⟩, by omega⟩
        ·
          simp only [Bool.and_eq_true, Bool.or_eq_true, Bool.and_eq_false_iff, Bool.or_eq_false_iff, decide_eq_true_eq, decide_eq_false_iff_not, Bool.not_eq_true, Bool.not_eq_false, Bool.not_not, Bool.not_eq_eq_eq_not, Bool.not_true, Bool.not_false, Bool.false_eq_true, Bool.true_eq_false, ne_eq, Decidable.not_not, not_false_eq_true, not_true_eq_false] at c77
          refine exit ?_
          show Code.wp _ _ _ _ _
          refine seq ?_
          refine seq ?_
          refine region ?_
          refine sv (yAsg rfl) ?_
          refine nil ?_
          show Code.wp _ _ _ _ _
          refine block ?_
          refine loop (fun f w zz => ∃ (j : Nat), f 2 = .slice al l.length cl ∧ f 7 = .slice ap (planL c d.script d.start).length cp ∧ f 11 = .bool can ∧ f 13 = .int .i64 (j : Int) ∧ StX [] w0 w [rowI (.slice ap (planL c d.script d.start).length cp) 3 1 (planL c d.script d.start).length ((planL c d.script d.start).flatMap Bx.encI)] ∧ (j ≤ (planL c d.script d.start).length) ∧ (can = true → ∀ q, q < j → l[q]? = (planL c d.script d.start)[q]?) ∧ zz = (planL c d.script d.start).length - j) _ ⟨_, rfl, 0, h2, h7, h11, rfl, (hS.sub (.cons _ (.cons_cons _ (List.nil_sublist _)))), (Nat.zero_le _), (fun _ q hq => absurd hq (Nat.not_lt_zero q)), rfl⟩ ?_
          clear hS
          rintro f w _ ⟨j, h2, h7, h11, h13, hS, hj, heq, rfl⟩
          refine seq ?_
          refine seq ?_
          refine region ?_
          refine sv (yMove h13) ?_
          refine sv (yMove h7) ?_
          refine sv (yLen rfl Try.underlying30) ?_
          refine sv (yLss rfl rfl) ?_
          refine sv (yMove rfl) ?_
          refine sg rfl rfl rfl (fun g => (yMove h11)) (fun v113 g113 => ?_)
          refine sv (yAnd rfl (fun hB => (g113.1 hB)) rfl) ?_
          refine nil ?_
          show Code.wp _ _ _ _ _
          refine cond rfl (fun c114 => ?_) (fun c114 => ?_)
          ·
            simp only [Bool.and_eq_true, Bool.or_eq_true, Bool.and_eq_false_iff, Bool.or_eq_false_iff, decide_eq_true_eq, decide_eq_false_iff_not, Bool.not_eq_true, Bool.not_eq_false, Bool.not_not, Bool.not_eq_eq_eq_not, Bool.not_true, Bool.not_false, Bool.false_eq_true, Bool.true_eq_false, ne_eq, Decidable.not_not, not_false_eq_true, not_true_eq_false] at c114
            refine skip ?_
            show Code.wp _ _ _ _ _
            refine seq ?_
            refine block ?_
            refine seq ?_
            refine seq ?_
            refine region_draw mixed (by kernel_rfl) hS ?_
            have hA := hcan.1 c114.2
            have hAl := hA.len
            obtain ⟨y, hy, -⟩ := drop_of (l := planL c d.script d.start) (k := j) (by omega)
            obtain ⟨z, hxz, hdz⟩ := drop_of (l := l) (k := j) (by omega)
            obtain ⟨bz, oz, csz, haz, hlenz, hcsz, hRz⟩ := hell (j) (by omega)
            obtain rfl : z = l[j] := (List.getElem?_eq_some_iff.1 hxz).2.symm
            generalize l[j] = z at hxz hdz hRz
            obtain ⟨rfl, hzi⟩ := hRz
            have hfi := good_first hs0 hA hgo (heq c114.2) hxz hy
            obtain ⟨gap, rfl, -⟩ := row_get (hS.row (.slice ap (planL c d.script d.start).length cp)) (by omega)
            refine qv (fun w hS => (yMove h2)) ?_
            refine qv (fun w hS => (yMove h13)) ?_
            refine qv (fun w hS => (yIxa rfl haz rfl Try.runUnderlying30 Try.sizeOf3 (by omega) (by omega))) ?_
            refine qv (fun w hS => (yLd rfl Try.isAgg3 ((hcsz.ext hS.ext).one))) ?_
            refine qv (fun w hS => (yMove h7)) ?_
            refine qv (fun w hS => (yMove h13)) ?_
            refine qv (fun w hS => (yIx0 rfl rfl Try.runUnderlying30 Try.sizeOf3 (by omega))) ?_
            refine qv (fun w hS => (yLd rfl Try.isAgg3 ((flat_cells0 (enc := Bx.encI) encI_len (row_at (hS.row (.slice (some ⟨gap, 0, none⟩) (planL c d.script d.start).length cp)) rfl (by omega)) hy).one))) ?_
            refine qv (fun w hS => (yLss rfl rfl)) ?_
            clear hS; refine qnil (fun w hS => ?_)
            show Code.wp _ _ _ _ _
            refine cond rfl (fun c125 => ?_) (fun c125 => ?_)
            ·
              simp only [Bool.and_eq_true, Bool.or_eq_true, Bool.and_eq_false_iff, Bool.or_eq_false_iff, decide_eq_true_eq, decide_eq_false_iff_not, Bool.not_eq_true, Bool.not_eq_false, Bool.not_not, Bool.not_eq_eq_eq_not, Bool.not_true, Bool.not_false, Bool.false_eq_true, Bool.true_eq_false, ne_eq, Decidable.not_not, not_false_eq_true, not_true_eq_false] at c125
              exfalso; omega
            ·
              simp only [Bool.and_eq_true, Bool.or_eq_true, Bool.and_eq_false_iff, Bool.or_eq_false_iff, decide_eq_true_eq, decide_eq_false_iff_not, Bool.not_eq_true, Bool.not_eq_false, Bool.not_not, Bool.not_eq_eq_eq_not, Bool.not_true, Bool.not_false, Bool.false_eq_true, Bool.true_eq_false, ne_eq, Decidable.not_not, not_false_eq_true, not_true_eq_false] at c125
              refine skip ?_
              show Code.wp _ _ _ _ _
              refine seq ?_
              refine region_draw mixed (by kernel_rfl) hS ?_
              refine qv (fun w hS => (yMove h2)) ?_
              refine qv (fun w hS => (yMove h13)) ?_
              refine qv (fun w hS => (yIxa rfl haz rfl Try.runUnderlying30 Try.sizeOf3 (by omega) (by omega))) ?_
              refine qv (fun w hS => (yLd rfl Try.isAgg3 ((hcsz.ext hS.ext).one))) ?_
              refine qv (fun w hS => (yMove h7)) ?_
              refine qv (fun w hS => (yMove h13)) ?_
              refine qv (fun w hS => (yIx0 rfl rfl Try.runUnderlying30 Try.sizeOf3 (by omega))) ?_
              refine qv (fun w hS => (yLd rfl Try.isAgg3 ((flat_cells0 (enc := Bx.encI) encI_len (row_at (hS.row (.slice (some ⟨gap, 0, none⟩) (planL c d.script d.start).length cp)) rfl (by omega)) hy).one))) ?_
              refine qv (fun w hS => (yGtr rfl rfl)) ?_
              clear hS; refine qnil (fun w hS => ?_)
              show Code.wp _ _ _ _ _
              refine cond rfl (fun c134 => ?_) (fun c134 => ?_)
              ·
                simp only [Bool.and_eq_true, Bool.or_eq_true, Bool.and_eq_false_iff, Bool.or_eq_false_iff, decide_eq_true_eq, decide_eq_false_iff_not, Bool.not_eq_true, Bool.not_eq_false, Bool.not_not, Bool.not_eq_eq_eq_not, Bool.not_true, Bool.not_false, Bool.false_eq_true, Bool.true_eq_false, ne_eq, Decidable.not_not, not_false_eq_true, not_true_eq_false] at c134
                refine exit ?_
                show Code.wp _ _ _ _ _
                refine seq ?_
                refine region ?_
                refine scall Try.call18 .nil c_Awake ?_
                rintro _ w ⟨rfl, hE⟩; replace hS := hS.step hE; clear hE
                refine sv (yAsg rfl) ?_
                refine nil ?_
                show Code.wp _ _ _ _ _
                refine wp_ret ?_
                exact retV (res1 rfl rfl) hS.ext
              ·
                simp only [Bool.and_eq_true, Bool.or_eq_true, Bool.and_eq_false_iff, Bool.or_eq_false_iff, decide_eq_true_eq, decide_eq_false_iff_not, Bool.not_eq_true, Bool.not_eq_false, Bool.not_not, Bool.not_eq_eq_eq_not, Bool.not_true, Bool.not_false, Bool.false_eq_true, Bool.true_eq_false, ne_eq, Decidable.not_not, not_false_eq_true, not_true_eq_false] at c134
                refine skip ?_
                show Code.wp _ _ _ _ _
                refine region ?_
                refine sv (yMove h13) ?_
                refine sv (yAdd rfl rfl ⟨by omega, by omega⟩) ?_
                refine sv (yAsg rfl) ?_
                refine nil ?_
                exact ⟨_, _, rfl, ⟨j + 1, h2, h7, h11, rfl, hS, (by omega), (fun hc => snoc (heq hc) (by rw [hxz, hy]; congr 1; omega)), rfl⟩, by omega⟩
          ·
            simp only [Bool.and_eq_true, Bool.or_eq_true, Bool.and_eq_false_iff, Bool.or_eq_false_iff, decide_eq_true_eq, decide_eq_false_iff_not, Bool.not_eq_true, Bool.not_eq_false, Bool.not_not, Bool.not_eq_eq_eq_not, Bool.not_true, Bool.not_false, Bool.false_eq_true, Bool.true_eq_false, ne_eq, Decidable.not_not, not_false_eq_true, not_true_eq_false] at c114
            refine exit ?_
            show Code.wp _ _ _ _ _
            refine seq ?_
            refine region ?_
            refine scall Try.call18 .nil c_Awake ?_
            rintro _ w ⟨rfl, hE⟩; replace hS := hS.step hE; clear hE
            refine sv (yAsg rfl) ?_
            refine nil ?_
            show Code.wp _ _ _ _ _
            refine wp_ret ?_
            exact retV (res1 rfl rfl) hS.ext
end Go.Proofs.Ytghgnofilbnbaaa
/- part LibM -/
namespace Bx
open Go Go.RowKit
def WOk {H : Type} (P : Program) (t : TypeId) (d : DataW H) : Prop := ∀ n ∈ d.weights P t, n ≤ 140737488351232
def RdW {α : Type} (P : Program) (t : TypeId) (R : World → List Value → α → Prop) : Prop :=
  ∀ (H : Type) (enc : TypeId × Value → H) (w : World) (base : Nat) (spare : Nat → Bool) (held : Bool) (fuel : Nat) (cs : List Value) (x : DataW H × List MemPlace), DataW.trod enc P w base spare held fuel t cs = some x → WOk P t x.1 → ∃ a, R w cs a
theorem Rd.w {α : Type} {P : Program} {t : TypeId} {R : World → List Value → α → Prop} (h : Rd P t R) : RdW P t R := fun H enc w base spare held fuel cs x hx _ => h H enc w base spare held fuel cs x hx
section
variable {P : Program} {t e : TypeId}
theorem weightsAll_mem {H : Type} {P : Program} {e : TypeId} : ∀ {l : List (DataW H)} {d : DataW H}, d ∈ l → ∀ n ∈ d.weights P e, n ∈ DataW.weightsAll P e l
  | a :: l, d, hd, n, hn => by
    unfold DataW.weightsAll
    rcases List.mem_cons.1 hd with rfl | hd
    · exact List.mem_append_left _ hn
    · exact List.mem_append_right _ (weightsAll_mem hd n hn)
theorem rdw_slice {α : Type} {R : World → List Value → α → Prop} {k bytes : Nat} (hR : RdW P e R) (hk : P.cellsOf e = k) (h0 : 0 < k) (ht : P.underlying t = some (.slice e)) (hb : P.bytesOf e = bytes) : RdW P t (fun w cs (l : List α) => ∃ v, cs = [v] ∧ Sl w k R v l ∧ l.length * bytes ≤ 140737488351232) := by
  intro H enc w base spare held fuel cs x h hW
  rcases Deep.open_slice ht h with ⟨rfl, _⟩ | ⟨a, len, cap, m, n, D, Pl, rfl, _, hl, hm, hmm, rfl, hx⟩
  · exact ⟨[], _, rfl, Sl.nil, by simp⟩
  · have hlm : len ≤ m := by rw [hmm]; split <;> omega
    rw [hk] at hx
    unfold WOk at hW
    simp only [DataW.weights, ht] at hW
    have hbd := hW _ (List.mem_cons_self ..)
    have hel : ∀ i, i < len → WOk P e (D i) := fun i hi n hn => hW n (List.mem_cons_of_mem _ (List.mem_append_left _ (weightsAll_mem (List.mem_map.2 ⟨i, List.mem_range.2 hi, rfl⟩) n hn)))
    obtain ⟨l, hll, hp⟩ := list_of (p := fun i x => ∃ cs, w.cells? base (a.add (i * k)) k = some cs ∧ R w cs x) len (fun i hi => by
      obtain ⟨cs, h1, h2⟩ := hx i (by omega)
      obtain ⟨y, hy⟩ := hR H enc w base spare held n cs _ h2 (hel i hi)
      exact ⟨y, cs, h1, hy⟩)
    refine ⟨l, _, rfl, ⟨some a, cap, by rw [hll], by omega, by simp only [maxLen] at hm; omega, fun i hi => ?_⟩, ?_⟩
    · obtain ⟨cs, h1, h2⟩ := hp i hi
      obtain ⟨cs0, h01, _⟩ := hp 0 (by omega)
      obtain ⟨_, hl0, hc0⟩ := World.cells?_some h01
      have ha := addr_of ((hc0 0 h0).trans (List.getElem?_eq_getElem (by omega)))
      obtain ⟨_, hlc, hc⟩ := World.cells?_some h1
      obtain ⟨b, o, s⟩ := a
      have hs : s = none := by
        have : (0 : Nat) * k = 0 := Nat.zero_mul k
        simp only [this, Addr.add, if_true] at ha
        simpa using ha
      subst hs
      refine ⟨b, o, cs, rfl, hlc, fun j v hv => ?_, h2⟩
      have hj : j < k := by have := (List.getElem?_eq_some_iff.1 hv).1; omega
      have := (hc j hj).trans hv
      rwa [addr_add, addr_add] at this
    · rw [hll, ← hb]
      refine Nat.le_trans ?_ hbd
      exact Nat.mul_le_mul_right _ (by simp)
theorem rdw_fields {H : Type} {enc : TypeId × Value → H} {w : World} {base : Nat} {spare : Nat → Bool} {held : Bool} {fuel : Nat} {cs : List Value} {x : DataW H × List MemPlace} {fs : Array Field} (ht : P.underlying t = some (.struct fs)) (h : DataW.trod enc P w base spare held fuel t cs = some x) (hW : WOk P t x.1) :
    cs.length = P.cellsOf t ∧ ∃ n, ∀ (i : Nat) (f : Field), fs[i]? = some f → ∃ y, DataW.trod enc P w base spare held n f.type ((cs.drop f.offset).take (P.cellsOf f.type)) = some y ∧ WOk P f.type y.1 := by
  obtain ⟨xs, n, _, rfl, hl, hxs, hf⟩ := DataW.trod_struct ht h
  refine ⟨hl, n, fun i f hi => ?_⟩
  have h1 := (Array.getElem?_eq_some_iff.1 hi).1
  have hix : i < xs.length := by omega
  refine ⟨xs[i], (hf i f hi).trans (List.getElem?_eq_getElem hix), fun m hm => hW m ?_⟩
  simp only [DataW.weights, ht]
  exact DataW.weights_mem_each (j := i) (t := f.type) (d := xs[i].1) (by simp [hi]) (by simp [hix]) m hm
end
end Bx
/- part RdF -/
namespace Go.Proofs.Ytghgnofilbnbaaa
open Go Bx
section
variable {H : Type} {enc : TypeId × Value → H} {w : World} {base : Nat} {spare : Nat → Bool} {held : Bool} {fuel : Nat} {cs : List Value} {x : DataW H × List MemPlace}
theorem rdF26 (h : DataW.trod enc Try.prog w base spare held fuel 26 cs = some x) (hW : WOk Try.prog 26 x.1) : ∃ n c0 c1 c2, cs = [c0, c1, c2] ∧ (∃ y, DataW.trod enc Try.prog w base spare held n 22 [c0] = some y ∧ WOk Try.prog 22 y.1) ∧ (∃ y, DataW.trod enc Try.prog w base spare held n 23 [c1] = some y ∧ WOk Try.prog 23 y.1) ∧ (∃ y, DataW.trod enc Try.prog w base spare held n 24 [c2] = some y ∧ WOk Try.prog 24 y.1) := by
  have z22 : Try.prog.cellsOf 22 = 1 := by kernel_rfl
  have z23 : Try.prog.cellsOf 23 = 1 := by kernel_rfl
  have z24 : Try.prog.cellsOf 24 = 1 := by kernel_rfl
  obtain ⟨hl, n, hf⟩ := rdw_fields Try.underlying26 h hW
  have hz : Try.prog.cellsOf 26 = 3 := by kernel_rfl
  rw [hz] at hl
  obtain ⟨c0, c1, c2, rfl⟩ := three_of hl
  have f0 : ∃ y, DataW.trod enc Try.prog w base spare held n 22 ((List.drop 0 [c0, c1, c2]).take (Try.prog.cellsOf 22)) = some y ∧ WOk Try.prog 22 y.1 := hf 0 _ rfl
  rw [z22] at f0
  have f1 : ∃ y, DataW.trod enc Try.prog w base spare held n 23 ((List.drop 1 [c0, c1, c2]).take (Try.prog.cellsOf 23)) = some y ∧ WOk Try.prog 23 y.1 := hf 1 _ rfl
  rw [z23] at f1
  have f2 : ∃ y, DataW.trod enc Try.prog w base spare held n 24 ((List.drop 2 [c0, c1, c2]).take (Try.prog.cellsOf 24)) = some y ∧ WOk Try.prog 24 y.1 := hf 2 _ rfl
  rw [z24] at f2
  exact ⟨n, c0, c1, c2, rfl, f0, f1, f2⟩
theorem rdF29 (h : DataW.trod enc Try.prog w base spare held fuel 29 cs = some x) (hW : WOk Try.prog 29 x.1) : ∃ n c0 c1, cs = [c0, c1] ∧ (∃ y, DataW.trod enc Try.prog w base spare held n 9 [c0] = some y ∧ WOk Try.prog 9 y.1) ∧ (∃ y, DataW.trod enc Try.prog w base spare held n 27 [c1] = some y ∧ WOk Try.prog 27 y.1) := by
  have z9 : Try.prog.cellsOf 9 = 1 := by kernel_rfl
  have z27 : Try.prog.cellsOf 27 = 1 := by kernel_rfl
  obtain ⟨hl, n, hf⟩ := rdw_fields Try.underlying29 h hW
  have hz : Try.prog.cellsOf 29 = 2 := by kernel_rfl
  rw [hz] at hl
  obtain ⟨c0, c1, rfl⟩ := two_of hl
  have f0 : ∃ y, DataW.trod enc Try.prog w base spare held n 9 ((List.drop 0 [c0, c1]).take (Try.prog.cellsOf 9)) = some y ∧ WOk Try.prog 9 y.1 := hf 0 _ rfl
  rw [z9] at f0
  have f1 : ∃ y, DataW.trod enc Try.prog w base spare held n 27 ((List.drop 1 [c0, c1]).take (Try.prog.cellsOf 27)) = some y ∧ WOk Try.prog 27 y.1 := hf 1 _ rfl
  rw [z27] at f1
  exact ⟨n, c0, c1, rfl, f0, f1⟩
theorem rdF39 (h : DataW.trod enc Try.prog w base spare held fuel 39 cs = some x) (hW : WOk Try.prog 39 x.1) : ∃ n c0 c1 c2 c3, cs = [c0, c1, c2, c3] ∧ (∃ y, DataW.trod enc Try.prog w base spare held n 29 [c0, c1] = some y ∧ WOk Try.prog 29 y.1) ∧ (∃ y, DataW.trod enc Try.prog w base spare held n 3 [c2] = some y ∧ WOk Try.prog 3 y.1) ∧ (∃ y, DataW.trod enc Try.prog w base spare held n 37 [c3] = some y ∧ WOk Try.prog 37 y.1) := by
  have z3 : Try.prog.cellsOf 3 = 1 := by kernel_rfl
  have z29 : Try.prog.cellsOf 29 = 2 := by kernel_rfl
  have z37 : Try.prog.cellsOf 37 = 1 := by kernel_rfl
  obtain ⟨hl, n, hf⟩ := rdw_fields Try.underlying39 h hW
  have hz : Try.prog.cellsOf 39 = 4 := by kernel_rfl
  rw [hz] at hl
  obtain ⟨c0, c1, c2, c3, rfl⟩ := four_of hl
  have f0 : ∃ y, DataW.trod enc Try.prog w base spare held n 29 ((List.drop 0 [c0, c1, c2, c3]).take (Try.prog.cellsOf 29)) = some y ∧ WOk Try.prog 29 y.1 := hf 0 _ rfl
  rw [z29] at f0
  have f1 : ∃ y, DataW.trod enc Try.prog w base spare held n 3 ((List.drop 2 [c0, c1, c2, c3]).take (Try.prog.cellsOf 3)) = some y ∧ WOk Try.prog 3 y.1 := hf 1 _ rfl
  rw [z3] at f1
  have f2 : ∃ y, DataW.trod enc Try.prog w base spare held n 37 ((List.drop 3 [c0, c1, c2, c3]).take (Try.prog.cellsOf 37)) = some y ∧ WOk Try.prog 37 y.1 := hf 2 _ rfl
  rw [z37] at f2
  exact ⟨n, c0, c1, c2, c3, rfl, f0, f1, f2⟩
theorem rdF42 (h : DataW.trod enc Try.prog w base spare held fuel 42 cs = some x) (hW : WOk Try.prog 42 x.1) : ∃ n c0 c1 c2, cs = [c0, c1, c2] ∧ (∃ y, DataW.trod enc Try.prog w base spare held n 9 [c0] = some y ∧ WOk Try.prog 9 y.1) ∧ (∃ y, DataW.trod enc Try.prog w base spare held n 3 [c1] = some y ∧ WOk Try.prog 3 y.1) ∧ (∃ y, DataW.trod enc Try.prog w base spare held n 40 [c2] = some y ∧ WOk Try.prog 40 y.1) := by
  have z3 : Try.prog.cellsOf 3 = 1 := by kernel_rfl
  have z9 : Try.prog.cellsOf 9 = 1 := by kernel_rfl
  have z40 : Try.prog.cellsOf 40 = 1 := by kernel_rfl
  obtain ⟨hl, n, hf⟩ := rdw_fields Try.underlying42 h hW
  have hz : Try.prog.cellsOf 42 = 3 := by kernel_rfl
  rw [hz] at hl
  obtain ⟨c0, c1, c2, rfl⟩ := three_of hl
  have f0 : ∃ y, DataW.trod enc Try.prog w base spare held n 9 ((List.drop 0 [c0, c1, c2]).take (Try.prog.cellsOf 9)) = some y ∧ WOk Try.prog 9 y.1 := hf 0 _ rfl
  rw [z9] at f0
  have f1 : ∃ y, DataW.trod enc Try.prog w base spare held n 3 ((List.drop 1 [c0, c1, c2]).take (Try.prog.cellsOf 3)) = some y ∧ WOk Try.prog 3 y.1 := hf 1 _ rfl
  rw [z3] at f1
  have f2 : ∃ y, DataW.trod enc Try.prog w base spare held n 40 ((List.drop 2 [c0, c1, c2]).take (Try.prog.cellsOf 40)) = some y ∧ WOk Try.prog 40 y.1 := hf 2 _ rfl
  rw [z40] at f2
  exact ⟨n, c0, c1, c2, rfl, f0, f1, f2⟩
theorem rdF44 (h : DataW.trod enc Try.prog w base spare held fuel 44 cs = some x) (hW : WOk Try.prog 44 x.1) : ∃ n c0 c1, cs = [c0, c1] ∧ (∃ y, DataW.trod enc Try.prog w base spare held n 3 [c0] = some y ∧ WOk Try.prog 3 y.1) ∧ (∃ y, DataW.trod enc Try.prog w base spare held n 3 [c1] = some y ∧ WOk Try.prog 3 y.1) := by
  have z3 : Try.prog.cellsOf 3 = 1 := by kernel_rfl
  obtain ⟨hl, n, hf⟩ := rdw_fields Try.underlying44 h hW
  have hz : Try.prog.cellsOf 44 = 2 := by kernel_rfl
  rw [hz] at hl
  obtain ⟨c0, c1, rfl⟩ := two_of hl
  have f0 : ∃ y, DataW.trod enc Try.prog w base spare held n 3 ((List.drop 0 [c0, c1]).take (Try.prog.cellsOf 3)) = some y ∧ WOk Try.prog 3 y.1 := hf 0 _ rfl
  rw [z3] at f0
  have f1 : ∃ y, DataW.trod enc Try.prog w base spare held n 3 ((List.drop 1 [c0, c1]).take (Try.prog.cellsOf 3)) = some y ∧ WOk Try.prog 3 y.1 := hf 1 _ rfl
  rw [z3] at f1
  exact ⟨n, c0, c1, rfl, f0, f1⟩
theorem rdF53 (h : DataW.trod enc Try.prog w base spare held fuel 53 cs = some x) (hW : WOk Try.prog 53 x.1) : ∃ n c0 c1 c2 c3 c4 c5, cs = [c0, c1, c2, c3, c4, c5] ∧ (∃ y, DataW.trod enc Try.prog w base spare held n 3 [c0] = some y ∧ WOk Try.prog 3 y.1) ∧ (∃ y, DataW.trod enc Try.prog w base spare held n 3 [c1] = some y ∧ WOk Try.prog 3 y.1) ∧ (∃ y, DataW.trod enc Try.prog w base spare held n 3 [c2] = some y ∧ WOk Try.prog 3 y.1) ∧ (∃ y, DataW.trod enc Try.prog w base spare held n 3 [c3] = some y ∧ WOk Try.prog 3 y.1) ∧ (∃ y, DataW.trod enc Try.prog w base spare held n 3 [c4] = some y ∧ WOk Try.prog 3 y.1) ∧ (∃ y, DataW.trod enc Try.prog w base spare held n 3 [c5] = some y ∧ WOk Try.prog 3 y.1) := by
  have z3 : Try.prog.cellsOf 3 = 1 := by kernel_rfl
  obtain ⟨hl, n, hf⟩ := rdw_fields Try.underlying53 h hW
  have hz : Try.prog.cellsOf 53 = 6 := by kernel_rfl
  rw [hz] at hl
  obtain ⟨c0, c1, c2, c3, c4, c5, rfl⟩ := six_of hl
  have f0 : ∃ y, DataW.trod enc Try.prog w base spare held n 3 ((List.drop 0 [c0, c1, c2, c3, c4, c5]).take (Try.prog.cellsOf 3)) = some y ∧ WOk Try.prog 3 y.1 := hf 0 _ rfl
  rw [z3] at f0
  have f1 : ∃ y, DataW.trod enc Try.prog w base spare held n 3 ((List.drop 1 [c0, c1, c2, c3, c4, c5]).take (Try.prog.cellsOf 3)) = some y ∧ WOk Try.prog 3 y.1 := hf 1 _ rfl
  rw [z3] at f1
  have f2 : ∃ y, DataW.trod enc Try.prog w base spare held n 3 ((List.drop 2 [c0, c1, c2, c3, c4, c5]).take (Try.prog.cellsOf 3)) = some y ∧ WOk Try.prog 3 y.1 := hf 2 _ rfl
  rw [z3] at f2
  have f3 : ∃ y, DataW.trod enc Try.prog w base spare held n 3 ((List.drop 3 [c0, c1, c2, c3, c4, c5]).take (Try.prog.cellsOf 3)) = some y ∧ WOk Try.prog 3 y.1 := hf 3 _ rfl
  rw [z3] at f3
  have f4 : ∃ y, DataW.trod enc Try.prog w base spare held n 3 ((List.drop 4 [c0, c1, c2, c3, c4, c5]).take (Try.prog.cellsOf 3)) = some y ∧ WOk Try.prog 3 y.1 := hf 4 _ rfl
  rw [z3] at f4
  have f5 : ∃ y, DataW.trod enc Try.prog w base spare held n 3 ((List.drop 5 [c0, c1, c2, c3, c4, c5]).take (Try.prog.cellsOf 3)) = some y ∧ WOk Try.prog 3 y.1 := hf 5 _ rfl
  rw [z3] at f5
  exact ⟨n, c0, c1, c2, c3, c4, c5, rfl, f0, f1, f2, f3, f4, f5⟩
theorem rdF79 (h : DataW.trod enc Try.prog w base spare held fuel 79 cs = some x) (hW : WOk Try.prog 79 x.1) : ∃ n c0 c1 c2 c3 c4 c5, cs = [c0, c1, c2, c3, c4, c5] ∧ (∃ y, DataW.trod enc Try.prog w base spare held n 9 [c0] = some y ∧ WOk Try.prog 9 y.1) ∧ (∃ y, DataW.trod enc Try.prog w base spare held n 3 [c1] = some y ∧ WOk Try.prog 3 y.1) ∧ (∃ y, DataW.trod enc Try.prog w base spare held n 3 [c2] = some y ∧ WOk Try.prog 3 y.1) ∧ (∃ y, DataW.trod enc Try.prog w base spare held n 3 [c3] = some y ∧ WOk Try.prog 3 y.1) ∧ (∃ y, DataW.trod enc Try.prog w base spare held n 30 [c4] = some y ∧ WOk Try.prog 30 y.1) ∧ (∃ y, DataW.trod enc Try.prog w base spare held n 4 [c5] = some y ∧ WOk Try.prog 4 y.1) := by
  have z3 : Try.prog.cellsOf 3 = 1 := by kernel_rfl
  have z4 : Try.prog.cellsOf 4 = 1 := by kernel_rfl
  have z9 : Try.prog.cellsOf 9 = 1 := by kernel_rfl
  have z30 : Try.prog.cellsOf 30 = 1 := by kernel_rfl
  obtain ⟨hl, n, hf⟩ := rdw_fields Try.underlying79 h hW
  have hz : Try.prog.cellsOf 79 = 6 := by kernel_rfl
  rw [hz] at hl
  obtain ⟨c0, c1, c2, c3, c4, c5, rfl⟩ := six_of hl
  have f0 : ∃ y, DataW.trod enc Try.prog w base spare held n 9 ((List.drop 0 [c0, c1, c2, c3, c4, c5]).take (Try.prog.cellsOf 9)) = some y ∧ WOk Try.prog 9 y.1 := hf 0 _ rfl
  rw [z9] at f0
  have f1 : ∃ y, DataW.trod enc Try.prog w base spare held n 3 ((List.drop 1 [c0, c1, c2, c3, c4, c5]).take (Try.prog.cellsOf 3)) = some y ∧ WOk Try.prog 3 y.1 := hf 1 _ rfl
  rw [z3] at f1
  have f2 : ∃ y, DataW.trod enc Try.prog w base spare held n 3 ((List.drop 2 [c0, c1, c2, c3, c4, c5]).take (Try.prog.cellsOf 3)) = some y ∧ WOk Try.prog 3 y.1 := hf 2 _ rfl
  rw [z3] at f2
  have f3 : ∃ y, DataW.trod enc Try.prog w base spare held n 3 ((List.drop 3 [c0, c1, c2, c3, c4, c5]).take (Try.prog.cellsOf 3)) = some y ∧ WOk Try.prog 3 y.1 := hf 3 _ rfl
  rw [z3] at f3
  have f4 : ∃ y, DataW.trod enc Try.prog w base spare held n 30 ((List.drop 4 [c0, c1, c2, c3, c4, c5]).take (Try.prog.cellsOf 30)) = some y ∧ WOk Try.prog 30 y.1 := hf 4 _ rfl
  rw [z30] at f4
  have f5 : ∃ y, DataW.trod enc Try.prog w base spare held n 4 ((List.drop 5 [c0, c1, c2, c3, c4, c5]).take (Try.prog.cellsOf 4)) = some y ∧ WOk Try.prog 4 y.1 := hf 5 _ rfl
  rw [z4] at f5
  exact ⟨n, c0, c1, c2, c3, c4, c5, rfl, f0, f1, f2, f3, f4, f5⟩
theorem rdF89 (h : DataW.trod enc Try.prog w base spare held fuel 89 cs = some x) (hW : WOk Try.prog 89 x.1) : ∃ n c0 c1 c2 c3 c4, cs = [c0, c1, c2, c3, c4] ∧ (∃ y, DataW.trod enc Try.prog w base spare held n 3 [c0] = some y ∧ WOk Try.prog 3 y.1) ∧ (∃ y, DataW.trod enc Try.prog w base spare held n 3 [c1] = some y ∧ WOk Try.prog 3 y.1) ∧ (∃ y, DataW.trod enc Try.prog w base spare held n 3 [c2] = some y ∧ WOk Try.prog 3 y.1) ∧ (∃ y, DataW.trod enc Try.prog w base spare held n 3 [c3] = some y ∧ WOk Try.prog 3 y.1) ∧ (∃ y, DataW.trod enc Try.prog w base spare held n 3 [c4] = some y ∧ WOk Try.prog 3 y.1) := by
  have z3 : Try.prog.cellsOf 3 = 1 := by kernel_rfl
  obtain ⟨hl, n, hf⟩ := rdw_fields Try.underlying89 h hW
  have hz : Try.prog.cellsOf 89 = 5 := by kernel_rfl
  rw [hz] at hl
  obtain ⟨c0, c1, c2, c3, c4, rfl⟩ := five_of hl
  have f0 : ∃ y, DataW.trod enc Try.prog w base spare held n 3 ((List.drop 0 [c0, c1, c2, c3, c4]).take (Try.prog.cellsOf 3)) = some y ∧ WOk Try.prog 3 y.1 := hf 0 _ rfl
  rw [z3] at f0
  have f1 : ∃ y, DataW.trod enc Try.prog w base spare held n 3 ((List.drop 1 [c0, c1, c2, c3, c4]).take (Try.prog.cellsOf 3)) = some y ∧ WOk Try.prog 3 y.1 := hf 1 _ rfl
  rw [z3] at f1
  have f2 : ∃ y, DataW.trod enc Try.prog w base spare held n 3 ((List.drop 2 [c0, c1, c2, c3, c4]).take (Try.prog.cellsOf 3)) = some y ∧ WOk Try.prog 3 y.1 := hf 2 _ rfl
  rw [z3] at f2
  have f3 : ∃ y, DataW.trod enc Try.prog w base spare held n 3 ((List.drop 3 [c0, c1, c2, c3, c4]).take (Try.prog.cellsOf 3)) = some y ∧ WOk Try.prog 3 y.1 := hf 3 _ rfl
  rw [z3] at f3
  have f4 : ∃ y, DataW.trod enc Try.prog w base spare held n 3 ((List.drop 4 [c0, c1, c2, c3, c4]).take (Try.prog.cellsOf 3)) = some y ∧ WOk Try.prog 3 y.1 := hf 4 _ rfl
  rw [z3] at f4
  exact ⟨n, c0, c1, c2, c3, c4, rfl, f0, f1, f2, f3, f4⟩
end
end Go.Proofs.Ytghgnofilbnbaaa
/- part Rd1 -/
namespace Go.Proofs.Ytghgnofilbnbaaa
open Go Bx
theorem rd_Spn : RdW Try.prog 44 RSpn := by
  intro H enc w base spare held fuel cs x h hW
  obtain ⟨n, c0, c1, rfl, ⟨y0, f0, k0⟩, ⟨y1, f1, k1⟩⟩ := rdF44 h hW
  obtain ⟨a0, g0⟩ := (Rd.w (rd_int Try.underlying3)) _ _ _ _ _ _ _ _ _ f0 k0
  obtain ⟨a1, g1⟩ := (Rd.w (rd_int Try.underlying3)) _ _ _ _ _ _ _ _ _ f1 k1
  obtain ⟨e0, i0⟩ := g0; obtain ⟨e1, i1⟩ := g1; cases e0; cases e1; exact ⟨⟨a0, a1⟩, rfl, i0, i1⟩
theorem rd_Spns : RdW Try.prog 40 (fun w cs (l : List Spn) => ∃ v, cs = [v] ∧ Sl w 2 RSpn v l ∧ l.length * 16 ≤ 140737488351232) := rdw_slice rd_Spn (by kernel_rfl) (by decide) Try.underlying40 (by kernel_rfl)
theorem rd_Ints : RdW Try.prog 30 (fun w cs (l : List Int) => ∃ v, cs = [v] ∧ Sl w 1 RInt v l ∧ l.length * 8 ≤ 140737488351232) := rdw_slice (Rd.w (rd_int Try.underlying3)) (by kernel_rfl) (by decide) Try.underlying30 (by kernel_rfl)
theorem rd_Nams : RdW Try.prog 23 (fun w cs (l : List ByteArray) => ∃ v, cs = [v] ∧ Sl w 1 RNam v l ∧ l.length * 16 ≤ 140737488351232) := rdw_slice (Rd.w (rd_str Try.underlying9)) (by kernel_rfl) (by decide) Try.underlying23 (by kernel_rfl)
theorem rd_Opr : RdW Try.prog 42 ROpr := by
  intro H enc w base spare held fuel cs x h hW
  obtain ⟨n, c0, c1, c2, rfl, ⟨y0, f0, k0⟩, ⟨y1, f1, k1⟩, ⟨y2, f2, k2⟩⟩ := rdF42 h hW
  obtain ⟨a0, g0⟩ := (Rd.w (rd_str Try.underlying9)) _ _ _ _ _ _ _ _ _ f0 k0
  obtain ⟨a1, g1⟩ := (Rd.w (rd_int Try.underlying3)) _ _ _ _ _ _ _ _ _ f1 k1
  obtain ⟨a2, g2⟩ := rd_Spns _ _ _ _ _ _ _ _ _ f2 k2
  obtain ⟨e0, i0⟩ := g0; obtain ⟨e1, i1⟩ := g1; obtain ⟨v2, e2, i2, r2⟩ := g2; cases e0; cases e1; cases e2; exact ⟨⟨a0, a1, a2⟩, _, rfl, i0, i1, i2, r2⟩
theorem rd_Oprs : RdW Try.prog 22 (fun w cs (l : List Opr) => ∃ v, cs = [v] ∧ Sl w 3 ROpr v l ∧ l.length * 48 ≤ 140737488351232) := rdw_slice rd_Opr (by kernel_rfl) (by decide) Try.underlying22 (by kernel_rfl)
theorem rd_Knd : RdW Try.prog 79 RKnd := by
  intro H enc w base spare held fuel cs x h hW
  obtain ⟨n, c0, c1, c2, c3, c4, c5, rfl, ⟨y0, f0, k0⟩, ⟨y1, f1, k1⟩, ⟨y2, f2, k2⟩, ⟨y3, f3, k3⟩, ⟨y4, f4, k4⟩, ⟨y5, f5, k5⟩⟩ := rdF79 h hW
  obtain ⟨a0, g0⟩ := (Rd.w (rd_str Try.underlying9)) _ _ _ _ _ _ _ _ _ f0 k0
  obtain ⟨a1, g1⟩ := (Rd.w (rd_int Try.underlying3)) _ _ _ _ _ _ _ _ _ f1 k1
  obtain ⟨a2, g2⟩ := (Rd.w (rd_int Try.underlying3)) _ _ _ _ _ _ _ _ _ f2 k2
  obtain ⟨a3, g3⟩ := (Rd.w (rd_int Try.underlying3)) _ _ _ _ _ _ _ _ _ f3 k3
  obtain ⟨a4, g4⟩ := rd_Ints _ _ _ _ _ _ _ _ _ f4 k4
  obtain ⟨a5, g5⟩ := (Rd.w (rd_bool Try.underlying4)) _ _ _ _ _ _ _ _ _ f5 k5
  obtain ⟨e0, i0⟩ := g0; obtain ⟨e1, i1⟩ := g1; obtain ⟨e2, i2⟩ := g2; obtain ⟨e3, i3⟩ := g3; obtain ⟨v4, e4, i4, r4⟩ := g4; have e5 : [c5] = [Value.bool a5] := g5; cases e0; cases e1; cases e2; cases e3; cases e4; cases e5; exact ⟨⟨a0, a1, a2, a3, a4, a5⟩, _, rfl, i0, i1, i2, i3, i4, r4⟩
theorem rd_Knds : RdW Try.prog 24 (fun w cs (l : List Knd) => ∃ v, cs = [v] ∧ Sl w 6 RKnd v l ∧ l.length * 72 ≤ 140737488351232) := rdw_slice rd_Knd (by kernel_rfl) (by decide) Try.underlying24 (by kernel_rfl)
theorem rd_Crew : RdW Try.prog 26 RCrew := by
  intro H enc w base spare held fuel cs x h hW
  obtain ⟨n, c0, c1, c2, rfl, ⟨y0, f0, k0⟩, ⟨y1, f1, k1⟩, ⟨y2, f2, k2⟩⟩ := rdF26 h hW
  obtain ⟨a0, g0⟩ := rd_Oprs _ _ _ _ _ _ _ _ _ f0 k0
  obtain ⟨a1, g1⟩ := rd_Nams _ _ _ _ _ _ _ _ _ f1 k1
  obtain ⟨a2, g2⟩ := rd_Knds _ _ _ _ _ _ _ _ _ f2 k2
  obtain ⟨v0, e0, i0, r0⟩ := g0; obtain ⟨v1, e1, i1, r1⟩ := g1; obtain ⟨v2, e2, i2, r2⟩ := g2; cases e0; cases e1; cases e2; exact ⟨⟨a0, a1, a2⟩, _, _, _, rfl, i0, i1, i2, r0⟩
theorem rd_Act : RdW Try.prog 53 RAct := by
  intro H enc w base spare held fuel cs x h hW
  obtain ⟨n, c0, c1, c2, c3, c4, c5, rfl, ⟨y0, f0, k0⟩, ⟨y1, f1, k1⟩, ⟨y2, f2, k2⟩, ⟨y3, f3, k3⟩, ⟨y4, f4, k4⟩, ⟨y5, f5, k5⟩⟩ := rdF53 h hW
  obtain ⟨a0, g0⟩ := (Rd.w (rd_int Try.underlying3)) _ _ _ _ _ _ _ _ _ f0 k0
  obtain ⟨a1, g1⟩ := (Rd.w (rd_int Try.underlying3)) _ _ _ _ _ _ _ _ _ f1 k1
  obtain ⟨a2, g2⟩ := (Rd.w (rd_int Try.underlying3)) _ _ _ _ _ _ _ _ _ f2 k2
  obtain ⟨a3, g3⟩ := (Rd.w (rd_int Try.underlying3)) _ _ _ _ _ _ _ _ _ f3 k3
  obtain ⟨a4, g4⟩ := (Rd.w (rd_int Try.underlying3)) _ _ _ _ _ _ _ _ _ f4 k4
  obtain ⟨a5, g5⟩ := (Rd.w (rd_int Try.underlying3)) _ _ _ _ _ _ _ _ _ f5 k5
  obtain ⟨e0, i0⟩ := g0; obtain ⟨e1, i1⟩ := g1; obtain ⟨e2, i2⟩ := g2; obtain ⟨e3, i3⟩ := g3; obtain ⟨e4, i4⟩ := g4; obtain ⟨e5, i5⟩ := g5; cases e0; cases e1; cases e2; cases e3; cases e4; cases e5; exact ⟨⟨a0, a1, a2, a3, a4, a5⟩, rfl, i0, i1, i2, i3, i4, i5⟩
theorem rd_Acts : RdW Try.prog 37 (fun w cs (l : List Acn) => ∃ v, cs = [v] ∧ Sl w 6 RAct v l ∧ l.length * 48 ≤ 140737488351232) := rdw_slice rd_Act (by kernel_rfl) (by decide) Try.underlying37 (by kernel_rfl)
theorem rd_Stp : RdW Try.prog 89 RStp := by
  intro H enc w base spare held fuel cs x h hW
  obtain ⟨n, c0, c1, c2, c3, c4, rfl, ⟨y0, f0, k0⟩, ⟨y1, f1, k1⟩, ⟨y2, f2, k2⟩, ⟨y3, f3, k3⟩, ⟨y4, f4, k4⟩⟩ := rdF89 h hW
  obtain ⟨a0, g0⟩ := (Rd.w (rd_int Try.underlying3)) _ _ _ _ _ _ _ _ _ f0 k0
  obtain ⟨a1, g1⟩ := (Rd.w (rd_int Try.underlying3)) _ _ _ _ _ _ _ _ _ f1 k1
  obtain ⟨a2, g2⟩ := (Rd.w (rd_int Try.underlying3)) _ _ _ _ _ _ _ _ _ f2 k2
  obtain ⟨a3, g3⟩ := (Rd.w (rd_int Try.underlying3)) _ _ _ _ _ _ _ _ _ f3 k3
  obtain ⟨a4, g4⟩ := (Rd.w (rd_int Try.underlying3)) _ _ _ _ _ _ _ _ _ f4 k4
  obtain ⟨e0, i0⟩ := g0; obtain ⟨e1, i1⟩ := g1; obtain ⟨e2, i2⟩ := g2; obtain ⟨e3, i3⟩ := g3; obtain ⟨e4, i4⟩ := g4; cases e0; cases e1; cases e2; cases e3; cases e4; exact ⟨⟨a0, a1, a2, a3, a4⟩, rfl, i0, i1, i2, i3, i4⟩
theorem rd_Stps : RdW Try.prog 27 (fun w cs (l : List Stp) => ∃ v, cs = [v] ∧ Sl w 5 RStp v l ∧ l.length * 40 ≤ 140737488351232) := rdw_slice rd_Stp (by kernel_rfl) (by decide) Try.underlying27 (by kernel_rfl)
theorem rd_Scr : RdW Try.prog 29 RScr := by
  intro H enc w base spare held fuel cs x h hW
  obtain ⟨n, c0, c1, rfl, ⟨y0, f0, k0⟩, ⟨y1, f1, k1⟩⟩ := rdF29 h hW
  obtain ⟨a0, g0⟩ := (Rd.w (rd_str Try.underlying9)) _ _ _ _ _ _ _ _ _ f0 k0
  obtain ⟨a1, g1⟩ := rd_Stps _ _ _ _ _ _ _ _ _ f1 k1
  obtain ⟨e0, i0⟩ := g0; obtain ⟨v1, e1, i1, r1⟩ := g1; cases e0; cases e1; exact ⟨⟨a0, a1⟩, _, rfl, i0, i1⟩
theorem rd_Drl : RdW Try.prog 39 RDrl := by
  intro H enc w base spare held fuel cs x h hW
  obtain ⟨n, c0, c1, c2, c3, rfl, ⟨y0, f0, k0⟩, ⟨y1, f1, k1⟩, ⟨y2, f2, k2⟩⟩ := rdF39 h hW
  obtain ⟨a0, g0⟩ := rd_Scr _ _ _ _ _ _ _ _ _ f0 k0
  obtain ⟨a1, g1⟩ := (Rd.w (rd_int Try.underlying3)) _ _ _ _ _ _ _ _ _ f1 k1
  obtain ⟨a2, g2⟩ := rd_Acts _ _ _ _ _ _ _ _ _ f2 k2
  obtain ⟨v0, e0, i0, j0⟩ := g0; obtain ⟨e1, i1⟩ := g1; obtain ⟨v2, e2, i2, r2⟩ := g2; cases e0; cases e1; cases e2; exact ⟨⟨a0, a1, a2⟩, _, _, rfl, i0, j0, i1, i2⟩
end Go.Proofs.Ytghgnofilbnbaaa
