/- Merged texts, part 5. -/
import Derived.Test.YtmoilbakmlekbaaGreatDoorQ4
import Derived.Test.YtmoilbakmlekbaaGreatDoorProg
import Derived.Test.YtmoilbakmlekbaaGreatDoorRows
import Derived.ChangeSame
import Derived.ChangeVars
import Derived.JoinedOf
import Derived.RowKit
import Derived.RowKitTokens
import Derived.LaidLaws
import Derived.LaidHandle
import Derived.Stop.Joined
set_option linter.all false
/- part Aw41 -/
namespace Go.Proofs.YtmoilbakmlekbaaGreatDoor
open Go Bx
set_option maxHeartbeats 4000000 in
/-- barrage/barragelaw11.AlarmParts -/
theorem w_AlarmParts {t : Task} {cs : List Value} {p : Int × Int} {wd : Int} {qs : List Value} {w0 : World} (hg : Glb w0) (h : RTask w0 cs t) (h2 : RTwoI w0 qs p) (_ : I64 wd) : CV Tryz.prog 12 #[.agg cs.toArray, .agg qs.toArray, .int .i64 wd] w0 (.bool true) := by
  obtain ⟨hv, nv, fv, rfl, hpol, hsh, hsn, hsf⟩ := id h
  obtain ⟨a1, cap1, rfl, hcap1, hmx1, hel1⟩ := id hsh
  obtain ⟨a2, cap2, rfl, hcap2, hmx2, hel2⟩ := id hsn
  obtain ⟨a3, cap3, rfl, hcap3, hmx3, hel3⟩ := id hsf
  obtain ⟨rfl, hp1, hp2⟩ := id h2
  refine enter Tryz.func12 rfl Tryz.ntmps12 rfl ?_
  have hS := St.start w0
  refine seq ?_
  refine region ?_
  refine sbox hS rfl rfl ?_; clear hS; intro b3 w hS
  refine sbox hS rfl rfl ?_; clear hS; intro b4 w hS
  refine sv (yAsg rfl) ?_
  refine nil ?_
  show Code.wp _ _ _ _ _
  refine seq ?_
  refine region ?_
  refine sv (yLdBA rfl Tryz.isAgg26 Tryz.sizeOf26 (hS.at _) rfl rfl) ?_
  refine sv (yIxA rfl rfl Tryz.runUnderlying63 Tryz.sizeOf3 (by omega) (by omega)) ?_
  refine sv (yLdB rfl Tryz.isAgg3 (hS.at _) rfl) ?_
  refine sv (yIxA rfl rfl Tryz.runUnderlying63 Tryz.sizeOf3 (by omega) (by omega)) ?_
  refine sv (yLdB rfl Tryz.isAgg3 (hS.at _) rfl) ?_
  refine sv (yMin rfl rfl) ?_
  refine sv (yMove rfl) ?_
  refine scall Tryz.call28 (.cons rfl (.cons rfl (.cons rfl .nil))) (c_Zones (hg.ext hS.ext) (h.ext hS.ext)) ?_
  rintro _ w ⟨va, rfl, hKva, hE⟩; replace hS := hS.step hE; clear hE
  refine sv (yMove rfl) ?_
  refine sv (yExt rfl rfl) ?_
  refine sv (yExt rfl rfl) ?_
  refine sv (yAsg rfl) ?_
  refine sv (yAsg rfl) ?_
  refine nil ?_
  show Code.wp _ _ _ _ _
  refine seq ?_
  refine region ?_
  refine sv (yLdBA rfl Tryz.isAgg26 Tryz.sizeOf26 (hS.at _) rfl rfl) ?_
  refine sv (yIxA rfl rfl Tryz.runUnderlying63 Tryz.sizeOf3 (by omega) (by omega)) ?_
  refine sv (yLdB rfl Tryz.isAgg3 (hS.at _) rfl) ?_
  refine sv (yIxA rfl rfl Tryz.runUnderlying63 Tryz.sizeOf3 (by omega) (by omega)) ?_
  refine sv (yLdB rfl Tryz.isAgg3 (hS.at _) rfl) ?_
  refine sv (yMax rfl rfl) ?_
  refine sv (yMove rfl) ?_
  refine scall Tryz.call28 (.cons rfl (.cons rfl (.cons rfl .nil))) (c_Zones (hg.ext hS.ext) (h.ext hS.ext)) ?_
  rintro _ w ⟨vb, rfl, hKvb, hE⟩; replace hKva := hKva.ext RRow.stays hE; replace hS := hS.step hE; clear hE
  refine sv (yMove rfl) ?_
  refine sv (yExt rfl rfl) ?_
  refine sv (yExt rfl rfl) ?_
  refine sv (yAsg rfl) ?_
  refine sv (yAsg rfl) ?_
  refine nil ?_
  show Code.wp _ _ _ _ _
  refine seq ?_
  refine seq ?_
  refine region ?_
  refine sv (yMove rfl) ?_
  refine sv (yNeq rfl rfl) ?_
  refine sv (yMove rfl) ?_
  refine sg rfl rfl rfl (fun g => (yMove rfl)) (fun v49 g49 => ?_)
  refine sg rfl rfl rfl (fun g => (yNeq (g49.1 g) rfl)) (fun v50 g50 => ?_)
  refine sv (yOr rfl rfl (fun hB => (g50.1 hB))) ?_
  refine nil ?_
  show Code.wp _ _ _ _ _
  refine cond rfl (fun c51 => ?_) (fun c51 => ?_)
  ·
    simp only [Bool.and_eq_true, Bool.or_eq_true, Bool.and_eq_false_iff, Bool.or_eq_false_iff, decide_eq_true_eq, decide_eq_false_iff_not, Bool.not_eq_true, Bool.not_eq_false, Bool.not_not, Bool.not_eq_eq_eq_not, Bool.not_true, Bool.not_false, Bool.false_eq_true, Bool.true_eq_false, ne_eq, Decidable.not_not, not_false_eq_true, not_true_eq_false] at c51
    have hpe := parts_err (t := t) (lo := min p.1 p.2) (hi := max p.1 p.2) (wd := wd) (by omega)
    refine seq ?_
    refine region ?_
    refine sv (yMove rfl) ?_
    refine sv (yNeq rfl rfl) ?_
    refine sv (yMove rfl) ?_
    refine sg rfl rfl rfl (fun g => (yMove rfl)) (fun v55 g55 => ?_)
    refine sg rfl rfl rfl (fun g => (yEql (g55.1 g) rfl)) (fun v56 g56 => ?_)
    refine sv (yOr rfl rfl (fun hB => (g56.1 hB))) ?_
    refine sv (yMove rfl) ?_
    refine sgc hS rfl rfl rfl Tryz.call20 (fun g => .nil) (fun g => (c_Awake (hg.ext hS.ext))) ?_; clear hS; intro v59 w hS g59
    refine sv (yAnd rfl (fun hB => (g59.1 hB)) rfl) ?_
    refine sv (yAsg rfl) ?_
    refine nil ?_
    show Code.wp _ _ _ _ _
    refine wp_ret (thenR ?_)
    exact retV (res1 rfl (eqB (parts_bool hpe c51).symm)) hS.ext
  ·
    simp only [Bool.and_eq_true, Bool.or_eq_true, Bool.and_eq_false_iff, Bool.or_eq_false_iff, decide_eq_true_eq, decide_eq_false_iff_not, Bool.not_eq_true, Bool.not_eq_false, Bool.not_not, Bool.not_eq_eq_eq_not, Bool.not_true, Bool.not_false, Bool.false_eq_true, Bool.true_eq_false, ne_eq, Decidable.not_not, not_false_eq_true, not_true_eq_false] at c51
    have hz1 : (zonesR t (min p.1 p.2) wd).2 = 0 := by omega
    have hz2 : (zonesR t (max p.1 p.2) wd).2 = 0 := by omega
    have hck := (zE0_ok (zonesR_ok hz1).1).1
    have hok := task_ok hck
    have hn8 := hok.ntw
    obtain ⟨hl1, -⟩ := zones_small hz1
    obtain ⟨hl2, -⟩ := zones_small hz2
    have hwd := (zE0_ok (zonesR_ok hz1).1).2.2
    have hb3 : w.heap[b3]? = some (.cells [.int .i64 t.polders, .slice a1 t.chans.length cap1, .slice a2 t.towns.length cap2, .slice a3 t.floods.length cap3].toArray 26 (0, 0)) := hS.at b3
    have hE0 := hS.ext
    have hT3 := h.ext hE0
    have hg3 := hg.ext hE0
    obtain ⟨al, cl, rfl, -⟩ := id hKva
    obtain ⟨am, cm, rfl, -⟩ := id hKvb
    obtain ⟨w0, hwq⟩ : ∃ wq, wq = w := ⟨w, rfl⟩
    rw [← hwq] at hE0 hb3 hT3 hg3 hKva hKvb
    replace hS : StX [] w0 w [] := by rw [hwq]; exact St.start w
    clear hwq
    obtain ⟨zq, bz, oz, arz, crz, haz⟩ := last_row hKva
    refine skip ?_
    show Code.wp _ _ _ _ _
    refine seq ?_
    refine seq ?_
    refine region ?_
    refine sv (yAsg rfl) ?_
    refine nil ?_
    show Code.wp _ _ _ _ _
    refine block ?_
    refine loop (fun f w zz => ∃ (i : Nat), f 2 = .int .i64 wd ∧ f 3 = .pointer (some ⟨b3, 0, none⟩) ∧ f 7 = .slice al (zonesR t (min p.1 p.2) wd).1.length cl ∧ f 9 = .slice am (zonesR t (max p.1 p.2) wd).1.length cm ∧ f 11 = .int .i64 (i : Int) ∧ StX [] w0 w (([] : List Bx.Item)) ∧ (i ≤ t.towns.length) ∧ zz = t.towns.length - i) _ ⟨_, rfl, 0, rfl, rfl, rfl, rfl, rfl, hS, (Nat.zero_le _), rfl⟩ ?_
    clear hS
    rintro f w _ ⟨i, h2, h3, h7, h9, h11, hS, hi, rfl⟩
    refine seq ?_
    refine seq ?_
    refine region ?_
    refine sv (yMove h11) ?_
    refine sv (fa26_2 h3) ?_
    refine sv (yLdB rfl Tryz.isAgg23 (hS.ext.get hb3) rfl) ?_
    refine sv (yLen rfl Tryz.underlying23) ?_
    refine sv (yLss rfl rfl) ?_
    refine nil ?_
    show Code.wp _ _ _ _ _
    refine cond rfl (fun c65 => ?_) (fun c65 => ?_)
    ·
      simp only [Bool.and_eq_true, Bool.or_eq_true, Bool.and_eq_false_iff, Bool.or_eq_false_iff, decide_eq_true_eq, decide_eq_false_iff_not, Bool.not_eq_true, Bool.not_eq_false, Bool.not_not, Bool.not_eq_eq_eq_not, Bool.not_true, Bool.not_false, Bool.false_eq_true, Bool.true_eq_false, ne_eq, Decidable.not_not, not_false_eq_true, not_true_eq_false] at c65
      have hib : 0 ≤ (i : Int) ∧ (i : Int) < t.towns.length := by omega
      obtain ⟨e0, he0, ha0⟩ : ∃ e0 : Int, e0 = 0 ∧ arrR t (i : Int) = (arr t (i : Int), e0) := ⟨0, rfl, arrR_of hck hib⟩
      have hab := arr_bd hok hib
      refine skip ?_
      show Code.wp _ _ _ _ _
      refine seq ?_
      refine block ?_
      refine seq ?_
      refine region ?_
      refine sv (yLdBA h3 Tryz.isAgg26 Tryz.sizeOf26 (hS.ext.get hb3) rfl rfl) ?_
      refine sv (yMove h11) ?_
      refine scall Tryz.call23 (.cons rfl (.cons rfl .nil)) (c_Arrival (hg3.ext hS.ext) (hT3.ext hS.ext)) ?_
      rw [ha0]
      rintro _ w ⟨rfl, hE⟩; replace hS := hS.step hE; clear hE
      refine sv (yMove rfl) ?_
      refine sv (yExt rfl rfl) ?_
      refine sv (yExt rfl rfl) ?_
      refine sv (yExt rfl rfl) ?_
      refine salloc hS Tryz.zeroValue44 rfl ?_; clear hS; intro b12 w hS
      refine sst hS rfl rfl Tryz.sizeOf44 rfl rfl rfl rfl ?_; clear hS; intro w hS
      refine sv (yAsg rfl) ?_
      refine sv (yAsg rfl) ?_
      refine nil ?_
      show Code.wp _ _ _ _ _
      refine seq ?_
      refine region ?_
      refine sv (yAsg rfl) ?_
      refine sv (yAsg rfl) ?_
      refine nil ?_
      show Code.wp _ _ _ _ _
      refine seq ?_
      refine region ?_
      refine sv (yAsg rfl) ?_
      refine sv (yAsg rfl) ?_
      refine nil ?_
      show Code.wp _ _ _ _ _
      refine seq ?_
      refine seq ?_
      refine region ?_
      refine sv (yAsg rfl) ?_
      refine nil ?_
      show Code.wp _ _ _ _ _
      refine block ?_
      refine loop (fun f w zz => ∃ (k : Nat), f 2 = .int .i64 wd ∧ f 3 = .pointer (some ⟨b3, 0, none⟩) ∧ f 7 = .slice al (zonesR t (min p.1 p.2) wd).1.length cl ∧ f 9 = .slice am (zonesR t (max p.1 p.2) wd).1.length cm ∧ f 11 = .int .i64 (i : Int) ∧ f 13 = .int .i64 (arr t (i : Int)).2 ∧ f 14 = .int .i64 e0 ∧ f 16 = .int .i64 0 ∧ f 18 = .int .i64 (-1) ∧ f 15 = .int .i64 (czs (i : Int) (zonesR t (min p.1 p.2) wd).1 k).1 ∧ f 17 = .int .i64 (czs (i : Int) (zonesR t (min p.1 p.2) wd).1 k).2 ∧ f 19 = .int .i64 (k : Int) ∧ StX [] w0 w (([] : List Bx.Item)) ∧ (k ≤ (zonesR t (min p.1 p.2) wd).1.length) ∧ zz = (zonesR t (min p.1 p.2) wd).1.length - k) _ ⟨_, rfl, 0, h2, h3, h7, h9, h11, rfl, rfl, rfl, rfl, rfl, rfl, rfl, (hS.sub (List.nil_sublist _)), (Nat.zero_le _), rfl⟩ ?_
      clear hS
      rintro f w _ ⟨k, h2, h3, h7, h9, h11, h13, h14, h16, h18, h15, h17, h19, hS, hk, rfl⟩
      refine seq ?_
      refine seq ?_
      refine region ?_
      refine sv (yMove h19) ?_
      refine sv (yMove h7) ?_
      refine sv (yLen rfl Tryz.underlying24) ?_
      refine sv (yLss rfl rfl) ?_
      refine nil ?_
      show Code.wp _ _ _ _ _
      refine cond rfl (fun c78 => ?_) (fun c78 => ?_)
      ·
        simp only [Bool.and_eq_true, Bool.or_eq_true, Bool.and_eq_false_iff, Bool.or_eq_false_iff, decide_eq_true_eq, decide_eq_false_iff_not, Bool.not_eq_true, Bool.not_eq_false, Bool.not_not, Bool.not_eq_eq_eq_not, Bool.not_true, Bool.not_false, Bool.false_eq_true, Bool.true_eq_false, ne_eq, Decidable.not_not, not_false_eq_true, not_true_eq_false] at c78
        obtain ⟨za, hza, -⟩ := drop_of (l := (zonesR t (min p.1 p.2) wd).1) (k := k) (by omega)
        obtain ⟨br, ora, cr, hara, hlr, hcra, hRr, -⟩ := sl_at hKva hza
        obtain ⟨rv, rfl, hrsa⟩ := hRr
        obtain ⟨ara, cpa, rfl, -⟩ := id hrsa
        obtain ⟨hzla, hzma⟩ := (zones_small hz1).2 za (List.mem_of_getElem? hza)
        refine skip ?_
        show Code.wp _ _ _ _ _
        refine seq ?_
        refine block ?_
        refine seq ?_
        refine region ?_
        refine sv (yAsg rfl) ?_
        refine nil ?_
        show Code.wp _ _ _ _ _
        refine block ?_
        refine loop (fun f w zz => ∃ (j : Nat), f 2 = .int .i64 wd ∧ f 3 = .pointer (some ⟨b3, 0, none⟩) ∧ f 7 = .slice al (zonesR t (min p.1 p.2) wd).1.length cl ∧ f 9 = .slice am (zonesR t (max p.1 p.2) wd).1.length cm ∧ f 11 = .int .i64 (i : Int) ∧ f 13 = .int .i64 (arr t (i : Int)).2 ∧ f 14 = .int .i64 e0 ∧ f 16 = .int .i64 0 ∧ f 18 = .int .i64 (-1) ∧ f 15 = .int .i64 (cz (i : Int) (k : Int) (za.take j) (czs (i : Int) (zonesR t (min p.1 p.2) wd).1 k)).1 ∧ f 17 = .int .i64 (cz (i : Int) (k : Int) (za.take j) (czs (i : Int) (zonesR t (min p.1 p.2) wd).1 k)).2 ∧ f 19 = .int .i64 (k : Int) ∧ f 20 = .int .i64 (j : Int) ∧ StX [] w0 w (([] : List Bx.Item)) ∧ (j ≤ za.length) ∧ zz = za.length - j) _ ⟨_, rfl, 0, h2, h3, h7, h9, h11, h13, h14, h16, h18, h15, h17, h19, rfl, hS, (Nat.zero_le _), rfl⟩ ?_
        clear hS
        rintro f w _ ⟨j, h2, h3, h7, h9, h11, h13, h14, h16, h18, h15, h17, h19, h20, hS, hj, rfl⟩
        refine seq ?_
        refine seq ?_
        refine region ?_
        refine sv (yMove h20) ?_
        refine sv (yMove h7) ?_
        refine sv (yMove h19) ?_
        refine sv (yIxa rfl hara rfl Tryz.runUnderlying24 Tryz.sizeOf34 (by omega) (by omega)) ?_
        refine sv (yLd rfl Tryz.isAgg34 ((hcra.ext hS.ext).one)) ?_
        refine sv (yLen rfl Tryz.underlying34) ?_
        refine sv (yLss rfl rfl) ?_
        refine nil ?_
        show Code.wp _ _ _ _ _
        refine cond rfl (fun c87 => ?_) (fun c87 => ?_)
        ·
          simp only [Bool.and_eq_true, Bool.or_eq_true, Bool.and_eq_false_iff, Bool.or_eq_false_iff, decide_eq_true_eq, decide_eq_false_iff_not, Bool.not_eq_true, Bool.not_eq_false, Bool.not_not, Bool.not_eq_eq_eq_not, Bool.not_true, Bool.not_false, Bool.false_eq_true, Bool.true_eq_false, ne_eq, Decidable.not_not, not_false_eq_true, not_true_eq_false] at c87
          obtain ⟨q, hq, -⟩ := drop_of (l := za) (k := j) (by omega)
          obtain ⟨bq, oq, cq, haq, hlq, hcq, hRq, -⟩ := sl_at hrsa hq
          obtain ⟨rfl, -⟩ := hRq
          have hcb := cz_bd (i : Int) (k : Int) (czs (i : Int) (zonesR t (min p.1 p.2) wd).1 k) (za.take j)
          have hsb := czs_bd (i : Int) (zonesR t (min p.1 p.2) wd).1 (fun z hz => ((zones_small hz1).2 z hz).1) k hk
          have htl : (za.take j).length ≤ j := by simp; omega
          refine skip ?_
          show Code.wp _ _ _ _ _
          refine seq ?_
          refine block ?_
          refine seq ?_
          refine region ?_
          refine sv (yMove h7) ?_
          refine sv (yMove h19) ?_
          refine sv (yIxa rfl hara rfl Tryz.runUnderlying24 Tryz.sizeOf34 (by omega) (by omega)) ?_
          refine sv (yLd rfl Tryz.isAgg34 ((hcra.ext hS.ext).one)) ?_
          refine sv (yMove h20) ?_
          refine sv (yIxa rfl haq rfl Tryz.runUnderlying34 Tryz.sizeOf3 (by omega) (by omega)) ?_
          refine sv (yLd rfl Tryz.isAgg3 ((hcq.ext hS.ext).one)) ?_
          refine sv (yMove h11) ?_
          refine sv (yEql rfl rfl) ?_
          refine nil ?_
          show Code.wp _ _ _ _ _
          refine cond rfl (fun c98 => ?_) (fun c98 => ?_)
          ·
            simp only [Bool.and_eq_true, Bool.or_eq_true, Bool.and_eq_false_iff, Bool.or_eq_false_iff, decide_eq_true_eq, decide_eq_false_iff_not, Bool.not_eq_true, Bool.not_eq_false, Bool.not_not, Bool.not_eq_eq_eq_not, Bool.not_true, Bool.not_false, Bool.false_eq_true, Bool.true_eq_false, ne_eq, Decidable.not_not, not_false_eq_true, not_true_eq_false] at c98
            refine region ?_
            refine sv (yMove h15) ?_
            refine sv (yAdd rfl rfl ⟨by omega, by omega⟩) ?_
            refine sv (yMove h19) ?_
            refine sv (yAsg rfl) ?_
            refine sv (yAsg rfl) ?_
            refine nil ?_
            show Code.wp _ _ _ _ _
            refine region ?_
            refine sv (yMove h20) ?_
            refine sv (yAdd rfl rfl ⟨by omega, by omega⟩) ?_
            refine sv (yAsg rfl) ?_
            refine nil ?_
            have hcz : (cz (i : Int) (k : Int) (za.take (j + 1)) (czs (i : Int) (zonesR t (min p.1 p.2) wd).1 k)) = ((cz (i : Int) (k : Int) (za.take j) (czs (i : Int) (zonesR t (min p.1 p.2) wd).1 k)).1 + 1, (k : Int)) := by rw [take_snoc hq, cz_snoc, if_pos c98]
            exact ⟨_, _, rfl, ⟨j + 1, h2, h3, h7, h9, h11, h13, h14, h16, h18, (rfl.trans (congrArg (fun q : Int × Int => Value.int .i64 q.1) hcz).symm), (rfl.trans (congrArg (fun q : Int × Int => Value.int .i64 q.2) hcz).symm), h19, rfl, hS, (by omega), rfl⟩, by omega⟩
          ·
            simp only [Bool.and_eq_true, Bool.or_eq_true, Bool.and_eq_false_iff, Bool.or_eq_false_iff, decide_eq_true_eq, decide_eq_false_iff_not, Bool.not_eq_true, Bool.not_eq_false, Bool.not_not, Bool.not_eq_eq_eq_not, Bool.not_true, Bool.not_false, Bool.false_eq_true, Bool.true_eq_false, ne_eq, Decidable.not_not, not_false_eq_true, not_true_eq_false] at c98
            refine skip ?_
            show Code.wp _ _ _ _ _
            refine region ?_
            refine sv (yMove h20) ?_
            refine sv (yAdd rfl rfl ⟨by omega, by omega⟩) ?_
            refine sv (yAsg rfl) ?_
            refine nil ?_
            have hcz : (cz (i : Int) (k : Int) (za.take (j + 1)) (czs (i : Int) (zonesR t (min p.1 p.2) wd).1 k)) = (cz (i : Int) (k : Int) (za.take j) (czs (i : Int) (zonesR t (min p.1 p.2) wd).1 k)) := by rw [take_snoc hq, cz_snoc, if_neg c98]
            exact ⟨_, _, rfl, ⟨j + 1, h2, h3, h7, h9, h11, h13, h14, h16, h18, (h15.trans (congrArg (fun q : Int × Int => Value.int .i64 q.1) hcz).symm), (h17.trans (congrArg (fun q : Int × Int => Value.int .i64 q.2) hcz).symm), h19, rfl, hS, (by omega), rfl⟩, by omega⟩
        ·
          simp only [Bool.and_eq_true, Bool.or_eq_true, Bool.and_eq_false_iff, Bool.or_eq_false_iff, decide_eq_true_eq, decide_eq_false_iff_not, Bool.not_eq_true, Bool.not_eq_false, Bool.not_not, Bool.not_eq_eq_eq_not, Bool.not_true, Bool.not_false, Bool.false_eq_true, Bool.true_eq_false, ne_eq, Decidable.not_not, not_false_eq_true, not_true_eq_false] at c87
          obtain rfl : j = za.length := by omega
          rw [List.take_length] at h15 h17
          refine exit ?_
          show Code.wp _ _ _ _ _
          refine region ?_
          refine sv (yMove h19) ?_
          refine sv (yAdd rfl rfl ⟨by omega, by omega⟩) ?_
          refine sv (yAsg rfl) ?_
          refine nil ?_
          have hcz : (czs (i : Int) (zonesR t (min p.1 p.2) wd).1 (k + 1)) = cz (i : Int) (k : Int) za (czs (i : Int) (zonesR t (min p.1 p.2) wd).1 k) := by rw [czs, List.getD_eq_getElem?_getD, hza]; rfl
          exact ⟨_, _, rfl, ⟨k + 1, h2, h3, h7, h9, h11, h13, h14, h16, h18, (h15.trans (congrArg (fun q : Int × Int => Value.int .i64 q.1) hcz).symm), (h17.trans (congrArg (fun q : Int × Int => Value.int .i64 q.2) hcz).symm), rfl, hS, (by omega), rfl⟩, by omega⟩
      ·
        simp only [Bool.and_eq_true, Bool.or_eq_true, Bool.and_eq_false_iff, Bool.or_eq_false_iff, decide_eq_true_eq, decide_eq_false_iff_not, Bool.not_eq_true, Bool.not_eq_false, Bool.not_not, Bool.not_eq_eq_eq_not, Bool.not_true, Bool.not_false, Bool.false_eq_true, Bool.true_eq_false, ne_eq, Decidable.not_not, not_false_eq_true, not_true_eq_false] at c78
        obtain rfl : k = (zonesR t (min p.1 p.2) wd).1.length := by omega
        refine exit ?_
        show Code.wp _ _ _ _ _
        refine seq ?_
        refine seq ?_
        refine region ?_
        refine sv (yAsg rfl) ?_
        refine nil ?_
        show Code.wp _ _ _ _ _
        refine block ?_
        refine loop (fun f w zz => ∃ (k : Nat), f 2 = .int .i64 wd ∧ f 3 = .pointer (some ⟨b3, 0, none⟩) ∧ f 7 = .slice al (zonesR t (min p.1 p.2) wd).1.length cl ∧ f 9 = .slice am (zonesR t (max p.1 p.2) wd).1.length cm ∧ f 11 = .int .i64 (i : Int) ∧ f 13 = .int .i64 (arr t (i : Int)).2 ∧ f 14 = .int .i64 e0 ∧ f 15 = .int .i64 (czs (i : Int) (zonesR t (min p.1 p.2) wd).1 (zonesR t (min p.1 p.2) wd).1.length).1 ∧ f 17 = .int .i64 (czs (i : Int) (zonesR t (min p.1 p.2) wd).1 (zonesR t (min p.1 p.2) wd).1.length).2 ∧ f 16 = .int .i64 (czs (i : Int) (zonesR t (max p.1 p.2) wd).1 k).1 ∧ f 18 = .int .i64 (czs (i : Int) (zonesR t (max p.1 p.2) wd).1 k).2 ∧ f 21 = .int .i64 (k : Int) ∧ StX [] w0 w (([] : List Bx.Item)) ∧ (k ≤ (zonesR t (max p.1 p.2) wd).1.length) ∧ zz = (zonesR t (max p.1 p.2) wd).1.length - k) _ ⟨_, rfl, 0, h2, h3, h7, h9, h11, h13, h14, h15, h17, h16, h18, rfl, (hS.sub (List.nil_sublist _)), (Nat.zero_le _), rfl⟩ ?_
        clear hS
        rintro f w _ ⟨k, h2, h3, h7, h9, h11, h13, h14, h15, h17, h16, h18, h21, hS, hk, rfl⟩
        refine seq ?_
        refine seq ?_
        refine region ?_
        refine sv (yMove h21) ?_
        refine sv (yMove h9) ?_
        refine sv (yLen rfl Tryz.underlying24) ?_
        refine sv (yLss rfl rfl) ?_
        refine nil ?_
        show Code.wp _ _ _ _ _
        refine cond rfl (fun c105 => ?_) (fun c105 => ?_)
        ·
          simp only [Bool.and_eq_true, Bool.or_eq_true, Bool.and_eq_false_iff, Bool.or_eq_false_iff, decide_eq_true_eq, decide_eq_false_iff_not, Bool.not_eq_true, Bool.not_eq_false, Bool.not_not, Bool.not_eq_eq_eq_not, Bool.not_true, Bool.not_false, Bool.false_eq_true, Bool.true_eq_false, ne_eq, Decidable.not_not, not_false_eq_true, not_true_eq_false] at c105
          obtain ⟨zb, hzb, -⟩ := drop_of (l := (zonesR t (max p.1 p.2) wd).1) (k := k) (by omega)
          obtain ⟨br, orb, cr, harb, hlr, hcrb, hRr, -⟩ := sl_at hKvb hzb
          obtain ⟨rv, rfl, hrsb⟩ := hRr
          obtain ⟨arb, cpb, rfl, -⟩ := id hrsb
          obtain ⟨hzlb, hzmb⟩ := (zones_small hz2).2 zb (List.mem_of_getElem? hzb)
          refine skip ?_
          show Code.wp _ _ _ _ _
          refine seq ?_
          refine block ?_
          refine seq ?_
          refine region ?_
          refine sv (yAsg rfl) ?_
          refine nil ?_
          show Code.wp _ _ _ _ _
          refine block ?_
          refine loop (fun f w zz => ∃ (j : Nat), f 2 = .int .i64 wd ∧ f 3 = .pointer (some ⟨b3, 0, none⟩) ∧ f 7 = .slice al (zonesR t (min p.1 p.2) wd).1.length cl ∧ f 9 = .slice am (zonesR t (max p.1 p.2) wd).1.length cm ∧ f 11 = .int .i64 (i : Int) ∧ f 13 = .int .i64 (arr t (i : Int)).2 ∧ f 14 = .int .i64 e0 ∧ f 15 = .int .i64 (czs (i : Int) (zonesR t (min p.1 p.2) wd).1 (zonesR t (min p.1 p.2) wd).1.length).1 ∧ f 17 = .int .i64 (czs (i : Int) (zonesR t (min p.1 p.2) wd).1 (zonesR t (min p.1 p.2) wd).1.length).2 ∧ f 16 = .int .i64 (cz (i : Int) (k : Int) (zb.take j) (czs (i : Int) (zonesR t (max p.1 p.2) wd).1 k)).1 ∧ f 18 = .int .i64 (cz (i : Int) (k : Int) (zb.take j) (czs (i : Int) (zonesR t (max p.1 p.2) wd).1 k)).2 ∧ f 21 = .int .i64 (k : Int) ∧ f 22 = .int .i64 (j : Int) ∧ StX [] w0 w (([] : List Bx.Item)) ∧ (j ≤ zb.length) ∧ zz = zb.length - j) _ ⟨_, rfl, 0, h2, h3, h7, h9, h11, h13, h14, h15, h17, h16, h18, h21, rfl, hS, (Nat.zero_le _), rfl⟩ ?_
          clear hS
          rintro f w _ ⟨j, h2, h3, h7, h9, h11, h13, h14, h15, h17, h16, h18, h21, h22, hS, hj, rfl⟩
          refine seq ?_
          refine seq ?_
          refine region ?_
          refine sv (yMove h22) ?_
          refine sv (yMove h9) ?_
          refine sv (yMove h21) ?_
          refine sv (yIxa rfl harb rfl Tryz.runUnderlying24 Tryz.sizeOf34 (by omega) (by omega)) ?_
          refine sv (yLd rfl Tryz.isAgg34 ((hcrb.ext hS.ext).one)) ?_
          refine sv (yLen rfl Tryz.underlying34) ?_
          refine sv (yLss rfl rfl) ?_
          refine nil ?_
          show Code.wp _ _ _ _ _
          refine cond rfl (fun c114 => ?_) (fun c114 => ?_)
          ·
            simp only [Bool.and_eq_true, Bool.or_eq_true, Bool.and_eq_false_iff, Bool.or_eq_false_iff, decide_eq_true_eq, decide_eq_false_iff_not, Bool.not_eq_true, Bool.not_eq_false, Bool.not_not, Bool.not_eq_eq_eq_not, Bool.not_true, Bool.not_false, Bool.false_eq_true, Bool.true_eq_false, ne_eq, Decidable.not_not, not_false_eq_true, not_true_eq_false] at c114
            obtain ⟨q, hq, -⟩ := drop_of (l := zb) (k := j) (by omega)
            obtain ⟨bq, oq, cq, haq, hlq, hcq, hRq, -⟩ := sl_at hrsb hq
            obtain ⟨rfl, -⟩ := hRq
            have hcb := cz_bd (i : Int) (k : Int) (czs (i : Int) (zonesR t (max p.1 p.2) wd).1 k) (zb.take j)
            have hsb := czs_bd (i : Int) (zonesR t (max p.1 p.2) wd).1 (fun z hz => ((zones_small hz2).2 z hz).1) k hk
            have htl : (zb.take j).length ≤ j := by simp; omega
            refine skip ?_
            show Code.wp _ _ _ _ _
            refine seq ?_
            refine block ?_
            refine seq ?_
            refine region ?_
            refine sv (yMove h9) ?_
            refine sv (yMove h21) ?_
            refine sv (yIxa rfl harb rfl Tryz.runUnderlying24 Tryz.sizeOf34 (by omega) (by omega)) ?_
            refine sv (yLd rfl Tryz.isAgg34 ((hcrb.ext hS.ext).one)) ?_
            refine sv (yMove h22) ?_
            refine sv (yIxa rfl haq rfl Tryz.runUnderlying34 Tryz.sizeOf3 (by omega) (by omega)) ?_
            refine sv (yLd rfl Tryz.isAgg3 ((hcq.ext hS.ext).one)) ?_
            refine sv (yMove h11) ?_
            refine sv (yEql rfl rfl) ?_
            refine nil ?_
            show Code.wp _ _ _ _ _
            refine cond rfl (fun c125 => ?_) (fun c125 => ?_)
            ·
              simp only [Bool.and_eq_true, Bool.or_eq_true, Bool.and_eq_false_iff, Bool.or_eq_false_iff, decide_eq_true_eq, decide_eq_false_iff_not, Bool.not_eq_true, Bool.not_eq_false, Bool.not_not, Bool.not_eq_eq_eq_not, Bool.not_true, Bool.not_false, Bool.false_eq_true, Bool.true_eq_false, ne_eq, Decidable.not_not, not_false_eq_true, not_true_eq_false] at c125
              refine region ?_
              refine sv (yMove h16) ?_
              refine sv (yAdd rfl rfl ⟨by omega, by omega⟩) ?_
              refine sv (yMove h21) ?_
              refine sv (yAsg rfl) ?_
              refine sv (yAsg rfl) ?_
              refine nil ?_
              show Code.wp _ _ _ _ _
              refine region ?_
              refine sv (yMove h22) ?_
              refine sv (yAdd rfl rfl ⟨by omega, by omega⟩) ?_
              refine sv (yAsg rfl) ?_
              refine nil ?_
              have hcz : (cz (i : Int) (k : Int) (zb.take (j + 1)) (czs (i : Int) (zonesR t (max p.1 p.2) wd).1 k)) = ((cz (i : Int) (k : Int) (zb.take j) (czs (i : Int) (zonesR t (max p.1 p.2) wd).1 k)).1 + 1, (k : Int)) := by rw [take_snoc hq, cz_snoc, if_pos c125]
              exact ⟨_, _, rfl, ⟨j + 1, h2, h3, h7, h9, h11, h13, h14, h15, h17, (rfl.trans (congrArg (fun q : Int × Int => Value.int .i64 q.1) hcz).symm), (rfl.trans (congrArg (fun q : Int × Int => Value.int .i64 q.2) hcz).symm), h21, rfl, hS, (by omega), rfl⟩, by omega⟩
            ·
              simp only [Bool.and_eq_true, Bool.or_eq_true, Bool.and_eq_false_iff, Bool.or_eq_false_iff, decide_eq_true_eq, decide_eq_false_iff_not, Bool.not_eq_true, Bool.not_eq_false, Bool.not_not, Bool.not_eq_eq_eq_not, Bool.not_true, Bool.not_false, Bool.false_eq_true, Bool.true_eq_false, ne_eq, Decidable.not_not, not_false_eq_true, not_true_eq_false] at c125
              refine skip ?_
              show Code.wp _ _ _ _ _
              refine region ?_
              refine sv (yMove h22) ?_
              refine sv (yAdd rfl rfl ⟨by omega, by omega⟩) ?_
              refine sv (yAsg rfl) ?_
              refine nil ?_
              have hcz : (cz (i : Int) (k : Int) (zb.take (j + 1)) (czs (i : Int) (zonesR t (max p.1 p.2) wd).1 k)) = (cz (i : Int) (k : Int) (zb.take j) (czs (i : Int) (zonesR t (max p.1 p.2) wd).1 k)) := by rw [take_snoc hq, cz_snoc, if_neg c125]
              exact ⟨_, _, rfl, ⟨j + 1, h2, h3, h7, h9, h11, h13, h14, h15, h17, (h16.trans (congrArg (fun q : Int × Int => Value.int .i64 q.1) hcz).symm), (h18.trans (congrArg (fun q : Int × Int => Value.int .i64 q.2) hcz).symm), h21, rfl, hS, (by omega), rfl⟩, by omega⟩
          ·
            simp only [Bool.and_eq_true, Bool.or_eq_true, Bool.and_eq_false_iff, Bool.or_eq_false_iff, decide_eq_true_eq, decide_eq_false_iff_not, Bool.not_eq_true, Bool.not_eq_false, Bool.not_not, Bool.not_eq_eq_eq_not, Bool.not_true, Bool.not_false, Bool.false_eq_true, Bool.true_eq_false, ne_eq, Decidable.not_not, not_false_eq_true, not_true_eq_false] at c114
            obtain rfl : j = zb.length := by omega
            rw [List.take_length] at h16 h18
            refine exit ?_
            show Code.wp _ _ _ _ _
            refine region ?_
            refine sv (yMove h21) ?_
            refine sv (yAdd rfl rfl ⟨by omega, by omega⟩) ?_
            refine sv (yAsg rfl) ?_
            refine nil ?_
            have hcz : (czs (i : Int) (zonesR t (max p.1 p.2) wd).1 (k + 1)) = cz (i : Int) (k : Int) zb (czs (i : Int) (zonesR t (max p.1 p.2) wd).1 k) := by rw [czs, List.getD_eq_getElem?_getD, hzb]; rfl
            exact ⟨_, _, rfl, ⟨k + 1, h2, h3, h7, h9, h11, h13, h14, h15, h17, (h16.trans (congrArg (fun q : Int × Int => Value.int .i64 q.1) hcz).symm), (h18.trans (congrArg (fun q : Int × Int => Value.int .i64 q.2) hcz).symm), rfl, hS, (by omega), rfl⟩, by omega⟩
        ·
          simp only [Bool.and_eq_true, Bool.or_eq_true, Bool.and_eq_false_iff, Bool.or_eq_false_iff, decide_eq_true_eq, decide_eq_false_iff_not, Bool.not_eq_true, Bool.not_eq_false, Bool.not_not, Bool.not_eq_eq_eq_not, Bool.not_true, Bool.not_false, Bool.false_eq_true, Bool.true_eq_false, ne_eq, Decidable.not_not, not_false_eq_true, not_true_eq_false] at c105
          obtain rfl : k = (zonesR t (max p.1 p.2) wd).1.length := by omega
          refine exit ?_
          show Code.wp _ _ _ _ _
          refine seq ?_
          refine region ?_
          refine sv (yMove h13) ?_
          refine sv (yMin rfl rfl) ?_
          refine sv (yAsg rfl) ?_
          refine nil ?_
          show Code.wp _ _ _ _ _
          refine seq ?_
          refine region ?_
          refine sv (yMove h14) ?_
          refine sv (yNeq rfl rfl) ?_
          refine sv (yMove rfl) ?_
          refine sg rfl rfl rfl (fun g => (yMove h15)) (fun v134 g134 => ?_)
          refine sg rfl rfl rfl (fun g => (yMove rfl)) (fun v135 g135 => ?_)
          refine sg rfl rfl rfl (fun g => (yNeq (g134.1 g) (g135.1 g))) (fun v136 g136 => ?_)
          refine sv (yOr rfl rfl (fun hB => (g136.1 hB))) ?_
          refine sv (yMove rfl) ?_
          refine sg rfl rfl rfl (fun g => (yMove h16)) (fun v139 g139 => ?_)
          refine sg rfl rfl rfl (fun g => (yMove rfl)) (fun v140 g140 => ?_)
          refine sg rfl rfl rfl (fun g => (yNeq (g139.1 g) (g140.1 g))) (fun v141 g141 => ?_)
          refine sv (yOr rfl rfl (fun hB => (g141.1 hB))) ?_
          refine sv (yMove rfl) ?_
          refine sg rfl rfl rfl (fun g => (yMove h18)) (fun v144 g144 => ?_)
          refine sg rfl rfl rfl (fun g => (yMove h17)) (fun v145 g145 => ?_)
          refine sg rfl rfl rfl (fun g => (yGtr (g144.1 g) (g145.1 g))) (fun v146 g146 => ?_)
          refine sv (yOr rfl rfl (fun hB => (g146.1 hB))) ?_
          refine nil ?_
          show Code.wp _ _ _ _ _
          refine cond rfl (fun c147 => ?_) (fun c147 => ?_)
          ·
            simp only [Bool.and_eq_true, Bool.or_eq_true, Bool.and_eq_false_iff, Bool.or_eq_false_iff, decide_eq_true_eq, decide_eq_false_iff_not, Bool.not_eq_true, Bool.not_eq_false, Bool.not_not, Bool.not_eq_eq_eq_not, Bool.not_true, Bool.not_false, Bool.false_eq_true, Bool.true_eq_false, ne_eq, Decidable.not_not, not_false_eq_true, not_true_eq_false] at c147
            exfalso
            rw [zones_cnt hz1, zones_cnt hz2] at c147
            have hzm := zoneZ_mono (t := t) (a := min p.1 p.2) (b := max p.1 p.2) (i := (i : Int)) (by omega) hwd.1
            by_cases hw : (i : Int) ∈ wetL t
            · have := (mem_wetL.1 hw).2
              simp only [if_pos hw] at c147
              omega
            · have : ¬ 0 < (arr t (i : Int)).2 := fun hh => hw (mem_wetL.2 ⟨hib, hh⟩)
              simp only [if_neg hw] at c147
              omega
          ·
            simp only [Bool.and_eq_true, Bool.or_eq_true, Bool.and_eq_false_iff, Bool.or_eq_false_iff, decide_eq_true_eq, decide_eq_false_iff_not, Bool.not_eq_true, Bool.not_eq_false, Bool.not_not, Bool.not_eq_eq_eq_not, Bool.not_true, Bool.not_false, Bool.false_eq_true, Bool.true_eq_false, ne_eq, Decidable.not_not, not_false_eq_true, not_true_eq_false] at c147
            refine skip ?_
            show Code.wp _ _ _ _ _
            refine region ?_
            refine sv (yMove h11) ?_
            refine sv (yAdd rfl rfl ⟨by omega, by omega⟩) ?_
            refine sv (yAsg rfl) ?_
            refine nil ?_
            exact ⟨_, _, rfl, ⟨i + 1, h2, h3, h7, h9, rfl, hS, (by omega), rfl⟩, by omega⟩
    ·
      simp only [Bool.and_eq_true, Bool.or_eq_true, Bool.and_eq_false_iff, Bool.or_eq_false_iff, decide_eq_true_eq, decide_eq_false_iff_not, Bool.not_eq_true, Bool.not_eq_false, Bool.not_not, Bool.not_eq_eq_eq_not, Bool.not_true, Bool.not_false, Bool.false_eq_true, Bool.true_eq_false, ne_eq, Decidable.not_not, not_false_eq_true, not_true_eq_false] at c65
      refine exit ?_
      show Code.wp _ _ _ _ _
      refine seq ?_
      refine region ?_
      refine sv (yMove h7) ?_
      refine sv (yLen rfl Tryz.underlying24) ?_
      refine sv (yEql rfl rfl) ?_
      refine sv (yMove rfl) ?_
      refine sg rfl rfl rfl (fun g => (yMove h7)) (fun v152 g152 => ?_)
      refine sg rfl rfl rfl (fun g => (yMove h7)) (fun v153 g153 => ?_)
      refine sg rfl rfl rfl (fun g => (yLen (g153.1 g) Tryz.underlying24)) (fun v154 g154 => ?_)
      refine sg rfl rfl rfl (fun g => (ySub (g154.1 g) rfl ⟨by omega, by omega⟩)) (fun v155 g155 => ?_)
      refine sg rfl rfl rfl (fun g => (yIxa (g152.1 g) (haz (by have := of_decide_eq_false g; omega)).1 (g155.1 g) Tryz.runUnderlying24 Tryz.sizeOf34 (by have := of_decide_eq_false g; omega) (by have := of_decide_eq_false g; omega))) (fun v156 g156 => ?_)
      refine sg rfl rfl rfl (fun g => (yLd (g156.1 g) Tryz.isAgg34 (((haz (by have := of_decide_eq_false g; omega)).2.1.ext hS.ext).one))) (fun v157 g157 => ?_)
      refine sg rfl rfl rfl (fun g => (yLen (g157.1 g) Tryz.underlying34)) (fun v158 g158 => ?_)
      refine sg rfl rfl rfl (fun g => (yGtr (g158.1 g) rfl)) (fun v159 g159 => ?_)
      refine sv (yOr rfl rfl (fun hB => (g159.1 hB))) ?_
      refine sv (yMove rfl) ?_
      refine sgc hS rfl rfl rfl Tryz.call20 (fun g => .nil) (fun g => (c_Awake (hg3.ext hS.ext))) ?_; clear hS; intro v162 w hS g162
      refine sv (yAnd rfl (fun hB => (g162.1 hB)) rfl) ?_
      refine sv (yAsg rfl) ?_
      refine nil ?_
      show Code.wp _ _ _ _ _
      refine wp_ret ?_
      exact retV (res1 rfl (eqB (parts_last hz1 (fun hh => (haz hh).2.2)).symm)) (hE0.trans hS.ext)
end Go.Proofs.YtmoilbakmlekbaaGreatDoor

/- part RdF -/
namespace Go.Proofs.YtmoilbakmlekbaaGreatDoor
open Go Bx
section
variable {H : Type} {enc : TypeId × Value → H} {w : World} {base : Nat} {spare : Nat → Bool} {held : Bool} {fuel : Nat} {cs : List Value} {x : DataW H × List MemPlace}
theorem rdF26 (h : DataW.trod enc Tryz.prog w base spare held fuel 26 cs = some x) (hW : WOk Tryz.prog 26 x.1) : ∃ n c0 c1 c2 c3, cs = [c0, c1, c2, c3] ∧ (∃ y, DataW.trod enc Tryz.prog w base spare held n 3 [c0] = some y ∧ WOk Tryz.prog 3 y.1) ∧ (∃ y, DataW.trod enc Tryz.prog w base spare held n 22 [c1] = some y ∧ WOk Tryz.prog 22 y.1) ∧ (∃ y, DataW.trod enc Tryz.prog w base spare held n 23 [c2] = some y ∧ WOk Tryz.prog 23 y.1) ∧ (∃ y, DataW.trod enc Tryz.prog w base spare held n 24 [c3] = some y ∧ WOk Tryz.prog 24 y.1) := by
  have z3 : Tryz.prog.cellsOf 3 = 1 := by kernel_rfl
  have z22 : Tryz.prog.cellsOf 22 = 1 := by kernel_rfl
  have z23 : Tryz.prog.cellsOf 23 = 1 := by kernel_rfl
  have z24 : Tryz.prog.cellsOf 24 = 1 := by kernel_rfl
  obtain ⟨hl, n, hf⟩ := rdw_fields Tryz.underlying26 h hW
  have hz : Tryz.prog.cellsOf 26 = 4 := by kernel_rfl
  rw [hz] at hl
  obtain ⟨c0, c1, c2, c3, rfl⟩ := four_of hl
  have f0 : ∃ y, DataW.trod enc Tryz.prog w base spare held n 3 ((List.drop 0 [c0, c1, c2, c3]).take (Tryz.prog.cellsOf 3)) = some y ∧ WOk Tryz.prog 3 y.1 := hf 0 _ rfl
  rw [z3] at f0
  have f1 : ∃ y, DataW.trod enc Tryz.prog w base spare held n 22 ((List.drop 1 [c0, c1, c2, c3]).take (Tryz.prog.cellsOf 22)) = some y ∧ WOk Tryz.prog 22 y.1 := hf 1 _ rfl
  rw [z22] at f1
  have f2 : ∃ y, DataW.trod enc Tryz.prog w base spare held n 23 ((List.drop 2 [c0, c1, c2, c3]).take (Tryz.prog.cellsOf 23)) = some y ∧ WOk Tryz.prog 23 y.1 := hf 2 _ rfl
  rw [z23] at f2
  have f3 : ∃ y, DataW.trod enc Tryz.prog w base spare held n 24 ((List.drop 3 [c0, c1, c2, c3]).take (Tryz.prog.cellsOf 24)) = some y ∧ WOk Tryz.prog 24 y.1 := hf 3 _ rfl
  rw [z24] at f3
  exact ⟨n, c0, c1, c2, c3, rfl, f0, f1, f2, f3⟩
theorem rdF36 (h : DataW.trod enc Tryz.prog w base spare held fuel 36 cs = some x) (hW : WOk Tryz.prog 36 x.1) : ∃ n c0 c1 c2 c3 c4, cs = [c0, c1, c2, c3, c4] ∧ (∃ y, DataW.trod enc Tryz.prog w base spare held n 9 [c0] = some y ∧ WOk Tryz.prog 9 y.1) ∧ (∃ y, DataW.trod enc Tryz.prog w base spare held n 3 [c1] = some y ∧ WOk Tryz.prog 3 y.1) ∧ (∃ y, DataW.trod enc Tryz.prog w base spare held n 3 [c2] = some y ∧ WOk Tryz.prog 3 y.1) ∧ (∃ y, DataW.trod enc Tryz.prog w base spare held n 3 [c3] = some y ∧ WOk Tryz.prog 3 y.1) ∧ (∃ y, DataW.trod enc Tryz.prog w base spare held n 34 [c4] = some y ∧ WOk Tryz.prog 34 y.1) := by
  have z3 : Tryz.prog.cellsOf 3 = 1 := by kernel_rfl
  have z9 : Tryz.prog.cellsOf 9 = 1 := by kernel_rfl
  have z34 : Tryz.prog.cellsOf 34 = 1 := by kernel_rfl
  obtain ⟨hl, n, hf⟩ := rdw_fields Tryz.underlying36 h hW
  have hz : Tryz.prog.cellsOf 36 = 5 := by kernel_rfl
  rw [hz] at hl
  obtain ⟨c0, c1, c2, c3, c4, rfl⟩ := five_of hl
  have f0 : ∃ y, DataW.trod enc Tryz.prog w base spare held n 9 ((List.drop 0 [c0, c1, c2, c3, c4]).take (Tryz.prog.cellsOf 9)) = some y ∧ WOk Tryz.prog 9 y.1 := hf 0 _ rfl
  rw [z9] at f0
  have f1 : ∃ y, DataW.trod enc Tryz.prog w base spare held n 3 ((List.drop 1 [c0, c1, c2, c3, c4]).take (Tryz.prog.cellsOf 3)) = some y ∧ WOk Tryz.prog 3 y.1 := hf 1 _ rfl
  rw [z3] at f1
  have f2 : ∃ y, DataW.trod enc Tryz.prog w base spare held n 3 ((List.drop 2 [c0, c1, c2, c3, c4]).take (Tryz.prog.cellsOf 3)) = some y ∧ WOk Tryz.prog 3 y.1 := hf 2 _ rfl
  rw [z3] at f2
  have f3 : ∃ y, DataW.trod enc Tryz.prog w base spare held n 3 ((List.drop 3 [c0, c1, c2, c3, c4]).take (Tryz.prog.cellsOf 3)) = some y ∧ WOk Tryz.prog 3 y.1 := hf 3 _ rfl
  rw [z3] at f3
  have f4 : ∃ y, DataW.trod enc Tryz.prog w base spare held n 34 ((List.drop 4 [c0, c1, c2, c3, c4]).take (Tryz.prog.cellsOf 34)) = some y ∧ WOk Tryz.prog 34 y.1 := hf 4 _ rfl
  rw [z34] at f4
  exact ⟨n, c0, c1, c2, c3, c4, rfl, f0, f1, f2, f3, f4⟩
theorem rdF41 (h : DataW.trod enc Tryz.prog w base spare held fuel 41 cs = some x) (hW : WOk Tryz.prog 41 x.1) : ∃ n c0 c1 c2, cs = [c0, c1, c2] ∧ (∃ y, DataW.trod enc Tryz.prog w base spare held n 9 [c0] = some y ∧ WOk Tryz.prog 9 y.1) ∧ (∃ y, DataW.trod enc Tryz.prog w base spare held n 3 [c1] = some y ∧ WOk Tryz.prog 3 y.1) ∧ (∃ y, DataW.trod enc Tryz.prog w base spare held n 3 [c2] = some y ∧ WOk Tryz.prog 3 y.1) := by
  have z3 : Tryz.prog.cellsOf 3 = 1 := by kernel_rfl
  have z9 : Tryz.prog.cellsOf 9 = 1 := by kernel_rfl
  obtain ⟨hl, n, hf⟩ := rdw_fields Tryz.underlying41 h hW
  have hz : Tryz.prog.cellsOf 41 = 3 := by kernel_rfl
  rw [hz] at hl
  obtain ⟨c0, c1, c2, rfl⟩ := three_of hl
  have f0 : ∃ y, DataW.trod enc Tryz.prog w base spare held n 9 ((List.drop 0 [c0, c1, c2]).take (Tryz.prog.cellsOf 9)) = some y ∧ WOk Tryz.prog 9 y.1 := hf 0 _ rfl
  rw [z9] at f0
  have f1 : ∃ y, DataW.trod enc Tryz.prog w base spare held n 3 ((List.drop 1 [c0, c1, c2]).take (Tryz.prog.cellsOf 3)) = some y ∧ WOk Tryz.prog 3 y.1 := hf 1 _ rfl
  rw [z3] at f1
  have f2 : ∃ y, DataW.trod enc Tryz.prog w base spare held n 3 ((List.drop 2 [c0, c1, c2]).take (Tryz.prog.cellsOf 3)) = some y ∧ WOk Tryz.prog 3 y.1 := hf 2 _ rfl
  rw [z3] at f2
  exact ⟨n, c0, c1, c2, rfl, f0, f1, f2⟩
theorem rdF63 (h : DataW.trod enc Tryz.prog w base spare held fuel 63 cs = some x) : ∃ n c0 c1, cs = [c0, c1] ∧ (∃ y, DataW.trod enc Tryz.prog w base spare held n 3 [c0] = some y) ∧ (∃ y, DataW.trod enc Tryz.prog w base spare held n 3 [c1] = some y) := by
  have z3 : Tryz.prog.cellsOf 3 = 1 := by kernel_rfl
  obtain ⟨hl, n, hf⟩ := rd_elems Tryz.underlying63 z3 h
  have hz : Tryz.prog.cellsOf 63 = 2 := by kernel_rfl
  rw [hz] at hl
  obtain ⟨c0, c1, rfl⟩ := two_of hl
  have f0 : ∃ y, DataW.trod enc Tryz.prog w base spare held n 3 [c0] = some y := hf 0 (by omega)
  have f1 : ∃ y, DataW.trod enc Tryz.prog w base spare held n 3 [c1] = some y := hf 1 (by omega)
  exact ⟨n, c0, c1, rfl, f0, f1⟩
end
end Go.Proofs.YtmoilbakmlekbaaGreatDoor

/- part Rd1 -/
namespace Go.Proofs.YtmoilbakmlekbaaGreatDoor
open Go Bx
theorem rd_Ints : RdW Tryz.prog 34 (fun w cs (l : List Int) => ∃ v, cs = [v] ∧ Sl w 1 RInt v l ∧ l.length * 8 ≤ 140737488351232) := rdw_slice (Rd.w (rd_int Tryz.underlying3)) (by kernel_rfl) (by decide) Tryz.underlying34 (by kernel_rfl)
theorem rd_Row : RdW Tryz.prog 34 RRow := fun H enc w base spare held fuel cs x h hW => by obtain ⟨a, v, e, i, -⟩ := rd_Ints H enc w base spare held fuel cs x h hW; exact ⟨a, v, e, i⟩
theorem rd_Rows : RdW Tryz.prog 24 (fun w cs (l : List (List Int)) => ∃ v, cs = [v] ∧ Sl w 1 RRow v l ∧ l.length * 24 ≤ 140737488351232) := rdw_slice rd_Row (by kernel_rfl) (by decide) Tryz.underlying24 (by kernel_rfl)
theorem rd_Chan : RdW Tryz.prog 41 RChan := by
  intro H enc w base spare held fuel cs x h hW
  obtain ⟨n, c0, c1, c2, rfl, ⟨y0, f0, k0⟩, ⟨y1, f1, k1⟩, ⟨y2, f2, k2⟩⟩ := rdF41 h hW
  obtain ⟨a0, g0⟩ := (Rd.w (rd_str Tryz.underlying9)) _ _ _ _ _ _ _ _ _ f0 k0
  obtain ⟨a1, g1⟩ := (Rd.w (rd_int Tryz.underlying3)) _ _ _ _ _ _ _ _ _ f1 k1
  obtain ⟨a2, g2⟩ := (Rd.w (rd_int Tryz.underlying3)) _ _ _ _ _ _ _ _ _ f2 k2
  obtain ⟨e0, i0⟩ := g0; obtain ⟨e1, i1⟩ := g1; obtain ⟨e2, i2⟩ := g2; cases e0; cases e1; cases e2; exact ⟨⟨a0, a1, a2⟩, rfl, i0, i1, i2⟩
theorem rd_Chans : RdW Tryz.prog 22 (fun w cs (l : List Chan) => ∃ v, cs = [v] ∧ Sl w 3 RChan v l ∧ l.length * 32 ≤ 140737488351232) := rdw_slice rd_Chan (by kernel_rfl) (by decide) Tryz.underlying22 (by kernel_rfl)
theorem rd_Town : RdW Tryz.prog 36 RTown := by
  intro H enc w base spare held fuel cs x h hW
  obtain ⟨n, c0, c1, c2, c3, c4, rfl, ⟨y0, f0, k0⟩, ⟨y1, f1, k1⟩, ⟨y2, f2, k2⟩, ⟨y3, f3, k3⟩, ⟨y4, f4, k4⟩⟩ := rdF36 h hW
  obtain ⟨a0, g0⟩ := (Rd.w (rd_str Tryz.underlying9)) _ _ _ _ _ _ _ _ _ f0 k0
  obtain ⟨a1, g1⟩ := (Rd.w (rd_int Tryz.underlying3)) _ _ _ _ _ _ _ _ _ f1 k1
  obtain ⟨a2, g2⟩ := (Rd.w (rd_int Tryz.underlying3)) _ _ _ _ _ _ _ _ _ f2 k2
  obtain ⟨a3, g3⟩ := (Rd.w (rd_int Tryz.underlying3)) _ _ _ _ _ _ _ _ _ f3 k3
  obtain ⟨a4, g4⟩ := rd_Ints _ _ _ _ _ _ _ _ _ f4 k4
  obtain ⟨e0, i0⟩ := g0; obtain ⟨e1, i1⟩ := g1; obtain ⟨e2, i2⟩ := g2; obtain ⟨e3, i3⟩ := g3; obtain ⟨v4, e4, i4, r4⟩ := g4; cases e0; cases e1; cases e2; cases e3; cases e4; exact ⟨⟨a0, a1, a2, a3, a4⟩, _, rfl, i0, i1, i2, i3, i4, r4⟩
theorem rd_Towns : RdW Tryz.prog 23 (fun w cs (l : List Town) => ∃ v, cs = [v] ∧ Sl w 5 RTown v l ∧ l.length * 64 ≤ 140737488351232) := rdw_slice rd_Town (by kernel_rfl) (by decide) Tryz.underlying23 (by kernel_rfl)
theorem rd_Task : RdW Tryz.prog 26 RTask := by
  intro H enc w base spare held fuel cs x h hW
  obtain ⟨n, c0, c1, c2, c3, rfl, ⟨y0, f0, k0⟩, ⟨y1, f1, k1⟩, ⟨y2, f2, k2⟩, ⟨y3, f3, k3⟩⟩ := rdF26 h hW
  obtain ⟨a0, g0⟩ := (Rd.w (rd_int Tryz.underlying3)) _ _ _ _ _ _ _ _ _ f0 k0
  obtain ⟨a1, g1⟩ := rd_Chans _ _ _ _ _ _ _ _ _ f1 k1
  obtain ⟨a2, g2⟩ := rd_Towns _ _ _ _ _ _ _ _ _ f2 k2
  obtain ⟨a3, g3⟩ := rd_Rows _ _ _ _ _ _ _ _ _ f3 k3
  obtain ⟨e0, i0⟩ := g0; obtain ⟨v1, e1, i1, r1⟩ := g1; obtain ⟨v2, e2, i2, r2⟩ := g2; obtain ⟨v3, e3, i3, r3⟩ := g3; cases e0; cases e1; cases e2; cases e3; exact ⟨⟨a0, a1, a2, a3⟩, _, _, _, rfl, i0, i1, i2, i3⟩
end Go.Proofs.YtmoilbakmlekbaaGreatDoor

/- part Rd2 -/
namespace Go.Proofs.YtmoilbakmlekbaaGreatDoor
open Go Bx
theorem rd_TwoI : RdW Tryz.prog 63 RTwoI := by
  intro H enc w base spare held fuel cs x h hW
  obtain ⟨n, c0, c1, rfl, ⟨y0, f0⟩, ⟨y1, f1⟩⟩ := rdF63 h
  obtain ⟨a0, e0, i0⟩ := rd_int Tryz.underlying3 _ _ _ _ _ _ _ _ _ f0
  obtain ⟨a1, e1, i1⟩ := rd_int Tryz.underlying3 _ _ _ _ _ _ _ _ _ f1
  cases e0; cases e1; exact ⟨(a0, a1), rfl, i0, i1⟩
end Go.Proofs.YtmoilbakmlekbaaGreatDoor

/- part Laid -/
namespace Go.Proofs.YtmoilbakmlekbaaGreatDoor
open Go Bx Go.ChangeShapes Go.WideShapes Go.RowKit
theorem laidEt : Tryz.prog.globalNamed "errors.errorType" = some 0 := by kernel_rfl
theorem laidRt : (Tryz.prog.cutTypes.find? (·.1 == "internal/reflectlite.rtype")).map (·.2) = some 217 := by kernel_rfl
theorem laidOne : ((List.range 309).filter fun t => Tryz.prog.rowNamed t [101, 114, 114, 111, 114]) = [120] := by kernel_rfl
theorem laidSize : Tryz.prog.types.size = 309 := by kernel_rfl
theorem glb_of_laid {W : World} (h : laidMetH Tryz.prog [("errors.errorType", Rows.laid_errors_errorType)] W) : Glb W := by
  have h' : laidMet Tryz.prog [] W ∧ handlesMet Tryz.prog [("errors.errorType", Rows.laid_errors_errorType)] W := h
  obtain ⟨name, u, ty, e1, e2, e3, e4, e5⟩ := h'.2 _ (List.mem_singleton.2 rfl)
  have en : name = [101, 114, 114, 111, 114] := (Option.some.inj e1).symm
  subst en
  obtain rfl := Option.some.inj (laidRt.symm.trans e2)
  have hm : ty ∈ (List.range 309).filter fun t => Tryz.prog.rowNamed t [101, 114, 114, 111, 114] := List.mem_filter.2 ⟨List.mem_range.2 (by rw [← laidSize]; exact e3), e4⟩
  rw [laidOne] at hm
  obtain rfl := List.mem_singleton.1 hm
  have hh : typeHandle Tryz.prog 120 = .pointer (some ⟨1, 120, none⟩) := by kernel_rfl
  rw [hh] at e5
  simpa [Glb] using World.var?_cell laidEt e5 0
noncomputable def laidWorld (os : Os) : World :=
  let w0 := World.holding Tryz.prog os ⟨#[], #[], []⟩
  { w0 with heap := w0.heap.modify 0 fun
      | .cells _ t frozen => .cells #[.iface 217 (.agg #[.pointer (some ⟨1, 120, none⟩)])] t frozen
      | o => o }
theorem laidWorld_met (os : Os) (args : Array Value) : laidMetH Tryz.prog [("errors.errorType", Rows.laid_errors_errorType)] ((laidWorld os).forCall (fun _ _ => 0) ⟨#[], args, []⟩).memory :=
  laidMetH_of_parts (laidMet_nil _ _) (by kernel_rfl)
end Go.Proofs.YtmoilbakmlekbaaGreatDoor

