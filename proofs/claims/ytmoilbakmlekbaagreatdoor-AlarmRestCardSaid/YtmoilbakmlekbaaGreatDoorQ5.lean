/- Merged texts, part 5. -/
import Derived.Test.YtmoilbakmlekbaaGreatDoorQ4
import Derived.Test.YtmoilbakmlekbaaGreatDoorProg
import Derived.Test.YtmoilbakmlekbaaGreatDoorRows
import Derived.ChangeSame
import Derived.ChangeVars
import Derived.JoinedOf
import Derived.RowKit
import Derived.RowKitTokens
import Derived.LaidLaws
import Derived.LaidHandle
import Derived.Stop.Joined
set_option linter.all false
/- part Aw37 -/
namespace Go.Proofs.YtmoilbakmlekbaaGreatDoor
open Go Bx
set_option maxHeartbeats 4000000 in
/-- barrage/barragelaw11.AlarmRest -/
theorem w_AlarmRest {t : Task} {cs : List Value} {log : List Msg} {lv : Value} {now : Int} {w0 : World} (hg : Glb w0) (h : RTask w0 cs t) (hlg : Sl w0 5 RMsg lv log) (_ : I64 now) : CV Tryz.prog 10 #[.agg cs.toArray, lv, .int .i64 now] w0 (.bool true) := by
  obtain ⟨hv, nv, fv, rfl, hpol, hsh, hsn, hsf⟩ := id h
  obtain ⟨a1, cap1, rfl, hcap1, hmx1, hel1⟩ := id hsh
  obtain ⟨a2, cap2, rfl, hcap2, hmx2, hel2⟩ := id hsn
  obtain ⟨a3, cap3, rfl, hcap3, hmx3, hel3⟩ := id hsf
  obtain ⟨al, cl, rfl, hlcap, hlmx, hlel⟩ := id hlg
  obtain ⟨z, bz, oz, csz, haz⟩ := last_at hlg
  refine enter Tryz.func10 rfl Tryz.ntmps10 rfl ?_
  have hS := St.start w0
  refine seq ?_
  refine region ?_
  refine sbox hS rfl rfl ?_; clear hS; intro b3 w hS
  refine sv (yAsg rfl) ?_
  refine nil ?_
  show Code.wp _ _ _ _ _
  refine seq ?_
  refine seq ?_
  refine region ?_
  refine sv (yMove rfl) ?_
  refine sv (yLen rfl Tryz.underlying62) ?_
  refine sv (yGtr rfl rfl) ?_
  refine sv (yMove rfl) ?_
  refine sg rfl rfl rfl (fun g => (yMove rfl)) (fun v25 g25 => ?_)
  refine sg rfl rfl rfl (fun g => (yMove rfl)) (fun v26 g26 => ?_)
  refine sg rfl rfl rfl (fun g => (yLen (g26.1 g) Tryz.underlying62)) (fun v27 g27 => ?_)
  refine sg rfl rfl rfl (fun g => (ySub (g27.1 g) rfl ⟨by omega, by omega⟩)) (fun v28 g28 => ?_)
  refine sg rfl rfl rfl (fun g => (yIxa (g25.1 g) (haz (of_decide_eq_true g)).1 (g28.1 g) Tryz.runUnderlying62 Tryz.sizeOf70 (by have := (of_decide_eq_true g); omega) (by have := (of_decide_eq_true g); omega))) (fun v29 g29 => ?_)
  refine sg rfl rfl rfl (fun g => (fa70_4 (g29.1 g))) (fun v30 g30 => ?_)
  refine sg rfl rfl rfl (fun g => (yLd (g30.1 g) Tryz.isAgg3 (((haz (of_decide_eq_true g)).2.1.ext hS.ext).at (j := 4) (haz (of_decide_eq_true g)).2.2.1))) (fun v31 g31 => ?_)
  refine sg rfl rfl rfl (fun g => (yMove rfl)) (fun v32 g32 => ?_)
  refine sg rfl rfl rfl (fun g => (yGeq (g31.1 g) (g32.1 g))) (fun v33 g33 => ?_)
  refine sv (yAnd rfl (fun hB => (g33.1 hB)) rfl) ?_
  refine sv (yMove rfl) ?_
  refine sg rfl rfl rfl (fun g => (yMove rfl)) (fun v36 g36 => ?_)
  refine sg rfl rfl rfl (fun g => (yLss (g36.1 g) rfl)) (fun v37 g37 => ?_)
  refine sv (yOr rfl rfl (fun hB => (g37.1 hB))) ?_
  refine sv (yMove rfl) ?_
  refine sg rfl rfl rfl (fun g => (yMove rfl)) (fun v40 g40 => ?_)
  refine sg rfl rfl rfl (fun g => (yGtr (g40.1 g) rfl)) (fun v41 g41 => ?_)
  refine sv (yOr rfl rfl (fun hB => (g41.1 hB))) ?_
  refine sv (yMove rfl) ?_
  refine sg rfl rfl rfl (fun g => (yMove rfl)) (fun v44 g44 => ?_)
  refine sg rfl rfl rfl (fun g => (yLen (g44.1 g) Tryz.underlying62)) (fun v45 g45 => ?_)
  refine sg rfl rfl rfl (fun g => (yGtr (g45.1 g) rfl)) (fun v46 g46 => ?_)
  refine sv (yOr rfl rfl (fun hB => (g46.1 hB))) ?_
  refine nil ?_
  show Code.wp _ _ _ _ _
  refine cond rfl (fun c47 => ?_) (fun c47 => ?_)
  ·
    simp only [Bool.and_eq_true, Bool.or_eq_true, Bool.and_eq_false_iff, Bool.or_eq_false_iff, decide_eq_true_eq, decide_eq_false_iff_not, Bool.not_eq_true, Bool.not_eq_false, Bool.not_not, Bool.not_eq_eq_eq_not, Bool.not_true, Bool.not_false, Bool.false_eq_true, Bool.true_eq_false, ne_eq, Decidable.not_not, not_false_eq_true, not_true_eq_false] at c47
    refine seq ?_
    refine region ?_
    refine scall Tryz.call20 .nil (c_Awake (hg.ext hS.ext)) ?_
    rintro _ w ⟨rfl, hE⟩; replace hS := hS.step hE; clear hE
    refine sv (yAsg rfl) ?_
    refine nil ?_
    show Code.wp _ _ _ _ _
    refine wp_ret (thenR ?_)
    exact retV (res1 rfl rfl) hS.ext
  ·
    simp only [Bool.and_eq_true, Bool.or_eq_true, Bool.and_eq_false_iff, Bool.or_eq_false_iff, decide_eq_true_eq, decide_eq_false_iff_not, Bool.not_eq_true, Bool.not_eq_false, Bool.not_not, Bool.not_eq_eq_eq_not, Bool.not_true, Bool.not_false, Bool.false_eq_true, Bool.true_eq_false, ne_eq, Decidable.not_not, not_false_eq_true, not_true_eq_false] at c47
    have hnw : 0 ≤ now ∧ now ≤ 199800 := by omega
    have hl1 : (log.length : Int) ≤ 100 := by omega
    have hzl := last_lt (now := now) (fun hh => (haz hh).2.2.2) c47.1.1.1
    have hml := sl_all hlg (p := MsgI) (fun _ _ hh => hh.2)
    refine skip ?_
    show Code.wp _ _ _ _ _
    refine seq ?_
    refine region ?_
    refine sbslice0 hS Tryz.underlying62 Tryz.sizeOf70 ?_; clear hS; intro b49 w hS
    refine sv (yMove rfl) ?_
    refine sappS (bytes := 40) (size := 5) hS rfl rfl Tryz.underlying62 ti70 rfl rfl rfl rfl (by decide) Tryz.sizeOf70 (fun hh => by obtain ⟨bd, od, e1, e2⟩ := encs_news (enc := msgC) (fun _ _ _ h => h.1) hlg hh; exact ⟨bd, od, e1, e2.ext hS.ext⟩) (by rw [flat_len msgC_len]) (msgs_one log) (by omega) (by omega) ?_; clear hS; intro v51 w hS; rw [Nat.zero_add, List.nil_append] at hS
    refine sv (yAsg rfl) ?_
    refine nil ?_
    show Code.wp _ _ _ _ _
    refine seq ?_
    refine seq ?_
    refine region ?_
    refine sv (yAsg rfl) ?_
    refine nil ?_
    show Code.wp _ _ _ _ _
    refine block ?_
    refine loop (fun f w zz => ∃ (i : Nat) (v : Value), f 1 = .slice al log.length cl ∧ f 2 = .int .i64 now ∧ f 3 = .pointer (some ⟨b3, 0, none⟩) ∧ f 7 = v ∧ f 8 = .int .i64 (i : Int) ∧ StX [] w0 w [rowI (v) 70 5 ((restA t log now i)).length (((restA t log now i)).flatMap msgC), blk b3 [.int .i64 t.polders, .slice a1 t.chans.length cap1, .slice a2 t.towns.length cap2, .slice a3 t.floods.length cap3] 26] ∧ (i ≤ 40) ∧ (i = 0 ∨ RestI t log now i ∧ (checkA t).2.2 = 0) ∧ zz = 40 - i) _ ⟨_, rfl, 0, _, rfl, rfl, rfl, rfl, rfl, hS, (Nat.zero_le _), (.inl rfl), rfl⟩ ?_
    clear hS
    rintro f w _ ⟨i, v, h1, h2, h3, h7, h8, hS, hi, hR, rfl⟩
    refine seq ?_
    refine seq ?_
    refine region ?_
    refine sv (yMove h8) ?_
    refine sv (yLss rfl rfl) ?_
    refine nil ?_
    show Code.wp _ _ _ _ _
    refine cond rfl (fun c53 => ?_) (fun c53 => ?_)
    ·
      simp only [Bool.and_eq_true, Bool.or_eq_true, Bool.and_eq_false_iff, Bool.or_eq_false_iff, decide_eq_true_eq, decide_eq_false_iff_not, Bool.not_eq_true, Bool.not_eq_false, Bool.not_not, Bool.not_eq_eq_eq_not, Bool.not_true, Bool.not_false, Bool.false_eq_true, Bool.true_eq_false, ne_eq, Decidable.not_not, not_false_eq_true, not_true_eq_false] at c53
      have hil : i < 40 := by omega
      obtain ⟨av, cv, rfl⟩ := row_shape (hS.row v)
      have hms := rest_i64 hml hR
      have hrl := rest_len hl1 hR
      refine skip ?_
      show Code.wp _ _ _ _ _
      refine seq ?_
      refine block ?_
      refine seq ?_
      refine region ?_
      refine sv (yLdBA h3 Tryz.isAgg26 Tryz.sizeOf26 (hS.at _) rfl rfl) ?_
      refine sv (yMove h7) ?_
      refine sv (yMove h2) ?_
      refine sv (yMove h8) ?_
      refine sv (yAdd rfl rfl ⟨by omega, by omega⟩) ?_
      refine scall Tryz.call33 (.cons rfl (.cons rfl (.cons rfl .nil))) (c_Next (hg.ext hS.ext) (h.ext hS.ext) (sl_msgs (hS.row (.slice av (restA t log now i).length cv)) rfl hms)) ?_
      rintro _ w ⟨nv, rfl, hM⟩; replace hS := hS.call1 hM; clear hM
      refine sv (yMove rfl) ?_
      refine sv (yExt rfl rfl) ?_
      refine sv (yExt rfl rfl) ?_
      refine sv (yAsg rfl) ?_
      refine sv (yAsg rfl) ?_
      refine nil ?_
      show Code.wp _ _ _ _ _
      refine seq ?_
      refine seq ?_
      refine region ?_
      refine sv (yMove rfl) ?_
      refine sv (yNeq rfl rfl) ?_
      refine nil ?_
      show Code.wp _ _ _ _ _
      refine cond rfl (fun c66 => ?_) (fun c66 => ?_)
      ·
        simp only [Bool.and_eq_true, Bool.or_eq_true, Bool.and_eq_false_iff, Bool.or_eq_false_iff, decide_eq_true_eq, decide_eq_false_iff_not, Bool.not_eq_true, Bool.not_eq_false, Bool.not_not, Bool.not_eq_eq_eq_not, Bool.not_true, Bool.not_false, Bool.false_eq_true, Bool.true_eq_false, ne_eq, Decidable.not_not, not_false_eq_true, not_true_eq_false] at c66
        have hi0 := rest_i0 hnw hil hR c66
        refine seq ?_
        refine region ?_
        refine sv (yMove h8) ?_
        refine sv (yEql rfl rfl) ?_
        refine sv (yMove rfl) ?_
        refine sgc hS rfl rfl rfl Tryz.call20 (fun g => .nil) (fun g => (c_Awake (hg.ext hS.ext))) ?_; clear hS; intro v70 w hS g70
        refine sv (yAnd rfl (fun hB => (g70.1 hB)) rfl) ?_
        refine sv (yAsg rfl) ?_
        refine nil ?_
        show Code.wp _ _ _ _ _
        refine wp_ret (thenR (blockR (thenR (thenR (blockR (thenR ?_))))))
        exact retV (res1 rfl (eqB (by rw [hi0]; rfl))) hS.ext
      ·
        simp only [Bool.and_eq_true, Bool.or_eq_true, Bool.and_eq_false_iff, Bool.or_eq_false_iff, decide_eq_true_eq, decide_eq_false_iff_not, Bool.not_eq_true, Bool.not_eq_false, Bool.not_not, Bool.not_eq_eq_eq_not, Bool.not_true, Bool.not_false, Bool.false_eq_true, Bool.true_eq_false, ne_eq, Decidable.not_not, not_false_eq_true, not_true_eq_false] at c66
        obtain ⟨hRI, hck⟩ := rest_here hl1 hzl hR c66
        have hok := task_ok hck
        have hn8 := hok.ntw
        have hc4 := hok.nch
        have hnx : (nextR t (restA t log now i) (now + (i : Int))).1 = (nextF t (restA t log now i) (now + (i : Int))) := by rw [hRI.next hck hnw hil]
        rw [hnx] at hS
        obtain ⟨an, cn, rfl⟩ := row_shape (hS.row nv)
        have hnl : ((restA t log now i) ++ (nextF t (restA t log now i) (now + (i : Int)))).length ≤ 116 := rest_len hl1 (i := i + 1) (.inr ⟨rest_succ hok hnw hil hRI, hck⟩)
        rw [List.length_append] at hnl
        refine skip ?_
        show Code.wp _ _ _ _ _
        refine seq ?_
        refine seq ?_
        refine region ?_
        refine sv (yAsg rfl) ?_
        refine nil ?_
        show Code.wp _ _ _ _ _
        refine block ?_
        refine loop (fun f w zz => ∃ (k : Nat) (v2 : Value), f 1 = .slice al log.length cl ∧ f 2 = .int .i64 now ∧ f 3 = .pointer (some ⟨b3, 0, none⟩) ∧ f 7 = v2 ∧ f 8 = .int .i64 (i : Int) ∧ f 9 = .slice an (nextF t (restA t log now i) (now + (i : Int))).length cn ∧ f 11 = .int .i64 (k : Int) ∧ StX [] w0 w [rowI (v2) 70 5 (((restA t log now i) ++ (nextF t (restA t log now i) (now + (i : Int))).take k)).length ((((restA t log now i) ++ (nextF t (restA t log now i) (now + (i : Int))).take k)).flatMap msgC), rowI (.slice an (nextF t (restA t log now i) (now + (i : Int))).length cn) 70 5 ((nextF t (restA t log now i) (now + (i : Int)))).length (((nextF t (restA t log now i) (now + (i : Int)))).flatMap msgC), blk b3 [.int .i64 t.polders, .slice a1 t.chans.length cap1, .slice a2 t.towns.length cap2, .slice a3 t.floods.length cap3] 26] ∧ (k ≤ (nextF t (restA t log now i) (now + (i : Int))).length) ∧ zz = (nextF t (restA t log now i) (now + (i : Int))).length - k) _ ⟨_, rfl, 0, _, h1, h2, h3, h7, h8, rfl, rfl, (by rw [List.take_zero, List.append_nil]; exact hS.perm (List.Perm.swap _ _ _)), (Nat.zero_le _), rfl⟩ ?_
        clear hS
        rintro f w _ ⟨k, v2, h1, h2, h3, h7, h8, h9, h11, hS, hk, rfl⟩
        refine seq ?_
        refine seq ?_
        refine region ?_
        refine sv (yMove h11) ?_
        refine sv (yMove h9) ?_
        refine sv (yLen rfl Tryz.underlying62) ?_
        refine sv (yLss rfl rfl) ?_
        refine nil ?_
        show Code.wp _ _ _ _ _
        refine cond rfl (fun c75 => ?_) (fun c75 => ?_)
        ·
          simp only [Bool.and_eq_true, Bool.or_eq_true, Bool.and_eq_false_iff, Bool.or_eq_false_iff, decide_eq_true_eq, decide_eq_false_iff_not, Bool.not_eq_true, Bool.not_eq_false, Bool.not_not, Bool.not_eq_eq_eq_not, Bool.not_true, Bool.not_false, Bool.false_eq_true, Bool.true_eq_false, ne_eq, Decidable.not_not, not_false_eq_true, not_true_eq_false] at c75
          obtain ⟨x, hx, -⟩ := drop_of (l := (nextF t (restA t log now i) (now + (i : Int)))) (k := k) (by omega)
          obtain ⟨hxn, hxs, hxc, hxi⟩ := next_at hok hnw hil hRI hx
          obtain ⟨aw, cw, rfl⟩ := row_shape (hS.row v2)
          obtain ⟨gn, han, -⟩ := row_get (hS.row (.slice an (nextF t (restA t log now i) (now + (i : Int))).length cn)) (by omega)
          have hul : ((restA t log now i) ++ (nextF t (restA t log now i) (now + (i : Int))).take k).length = (restA t log now i).length + k := by rw [List.length_append, List.length_take]; omega
          refine skip ?_
          show Code.wp _ _ _ _ _
          refine seq ?_
          refine block ?_
          refine seq ?_
          refine seq ?_
          refine region_draw mixed (by kernel_rfl) hS ?_
          refine qv (fun w hS => (yMove h9)) ?_
          refine qv (fun w hS => (yMove h11)) ?_
          refine qv (fun w hS => (yIxa rfl han rfl Tryz.runUnderlying62 Tryz.sizeOf70 (by omega) (by omega))) ?_
          refine qv (fun w hS => (fa70_0 rfl)) ?_
          refine qv (fun w hS => (yLd rfl Tryz.isAgg3 ((flat_cells msgC_len (row_at (hS.row (.slice an (nextF t (restA t log now i) (now + (i : Int))).length cn)) han (by omega)) hx).at (j := 0) rfl))) ?_
          refine qv (fun w hS => (yMove h7)) ?_
          refine qv (fun w hS => (yLen rfl Tryz.underlying62)) ?_
          refine qv (fun w hS => (yAdd rfl rfl ⟨by omega, by omega⟩)) ?_
          refine qv (fun w hS => (yNeq rfl rfl)) ?_
          refine qv (fun w hS => (yMove rfl)) ?_
          refine qg rfl rfl rfl (fun g w hS => (yMove h9)) (fun v88 g88 => ?_)
          refine qg rfl rfl rfl (fun g w hS => (yMove h11)) (fun v89 g89 => ?_)
          refine qg rfl rfl rfl (fun g w hS => (yIxa (g88.1 g) han (g89.1 g) Tryz.runUnderlying62 Tryz.sizeOf70 (by omega) (by omega))) (fun v90 g90 => ?_)
          refine qg rfl rfl rfl (fun g w hS => (fa70_4 (g90.1 g))) (fun v91 g91 => ?_)
          refine qg rfl rfl rfl (fun g w hS => (yLd (g91.1 g) Tryz.isAgg3 ((flat_cells msgC_len (row_at (hS.row (.slice an (nextF t (restA t log now i) (now + (i : Int))).length cn)) han (by omega)) hx).at (j := 4) rfl))) (fun v92 g92 => ?_)
          refine qg rfl rfl rfl (fun g w hS => (yMove h2)) (fun v93 g93 => ?_)
          refine qg rfl rfl rfl (fun g w hS => (yMove h8)) (fun v94 g94 => ?_)
          refine qg rfl rfl rfl (fun g w hS => (yAdd (g93.1 g) (g94.1 g) ⟨by omega, by omega⟩)) (fun v95 g95 => ?_)
          refine qg rfl rfl rfl (fun g w hS => (yNeq (g92.1 g) (g95.1 g))) (fun v96 g96 => ?_)
          refine qv (fun w hS => (yOr rfl rfl (fun hB => (g96.1 hB)))) ?_
          refine qv (fun w hS => (yMove rfl)) ?_
          refine qg rfl rfl rfl (fun g w hS => (yMove h9)) (fun v99 g99 => ?_)
          refine qg rfl rfl rfl (fun g w hS => (yMove h11)) (fun v100 g100 => ?_)
          refine qg rfl rfl rfl (fun g w hS => (yIxa (g99.1 g) han (g100.1 g) Tryz.runUnderlying62 Tryz.sizeOf70 (by omega) (by omega))) (fun v101 g101 => ?_)
          refine qg rfl rfl rfl (fun g w hS => (fa70_3 (g101.1 g))) (fun v102 g102 => ?_)
          refine qg rfl rfl rfl (fun g w hS => (yLd (g102.1 g) Tryz.isAgg3 ((flat_cells msgC_len (row_at (hS.row (.slice an (nextF t (restA t log now i) (now + (i : Int))).length cn)) han (by omega)) hx).at (j := 3) rfl))) (fun v103 g103 => ?_)
          refine qg rfl rfl rfl (fun g w hS => (yLss (g103.1 g) rfl)) (fun v104 g104 => ?_)
          refine qv (fun w hS => (yOr rfl rfl (fun hB => (g104.1 hB)))) ?_
          refine qv (fun w hS => (yMove rfl)) ?_
          refine qg rfl rfl rfl (fun g w hS => (yMove h9)) (fun v107 g107 => ?_)
          refine qg rfl rfl rfl (fun g w hS => (yMove h11)) (fun v108 g108 => ?_)
          refine qg rfl rfl rfl (fun g w hS => (yIxa (g107.1 g) han (g108.1 g) Tryz.runUnderlying62 Tryz.sizeOf70 (by omega) (by omega))) (fun v109 g109 => ?_)
          refine qg rfl rfl rfl (fun g w hS => (fa70_3 (g109.1 g))) (fun v110 g110 => ?_)
          refine qg rfl rfl rfl (fun g w hS => (yLd (g110.1 g) Tryz.isAgg3 ((flat_cells msgC_len (row_at (hS.row (.slice an (nextF t (restA t log now i) (now + (i : Int))).length cn)) han (by omega)) hx).at (j := 3) rfl))) (fun v111 g111 => ?_)
          refine qg rfl rfl rfl (fun g w hS => (fa26_1 h3)) (fun v112 g112 => ?_)
          refine qg rfl rfl rfl (fun g w hS => (yLdB (g112.1 g) Tryz.isAgg22 (hS.at _) rfl)) (fun v113 g113 => ?_)
          refine qg rfl rfl rfl (fun g w hS => (yLen (g113.1 g) Tryz.underlying22)) (fun v114 g114 => ?_)
          refine qg rfl rfl rfl (fun g w hS => (yGeq (g111.1 g) (g114.1 g))) (fun v115 g115 => ?_)
          refine qv (fun w hS => (yOr rfl rfl (fun hB => (g115.1 hB)))) ?_
          clear hS; refine qnil (fun w hS => ?_)
          show Code.wp _ _ _ _ _
          refine cond rfl (fun c116 => ?_) (fun c116 => ?_)
          ·
            simp only [Bool.and_eq_true, Bool.or_eq_true, Bool.and_eq_false_iff, Bool.or_eq_false_iff, decide_eq_true_eq, decide_eq_false_iff_not, Bool.not_eq_true, Bool.not_eq_false, Bool.not_not, Bool.not_eq_eq_eq_not, Bool.not_true, Bool.not_false, Bool.false_eq_true, Bool.true_eq_false, ne_eq, Decidable.not_not, not_false_eq_true, not_true_eq_false] at c116
            exfalso; omega
          ·
            simp only [Bool.and_eq_true, Bool.or_eq_true, Bool.and_eq_false_iff, Bool.or_eq_false_iff, decide_eq_true_eq, decide_eq_false_iff_not, Bool.not_eq_true, Bool.not_eq_false, Bool.not_not, Bool.not_eq_eq_eq_not, Bool.not_true, Bool.not_false, Bool.false_eq_true, Bool.true_eq_false, ne_eq, Decidable.not_not, not_false_eq_true, not_true_eq_false] at c116
            refine skip ?_
            show Code.wp _ _ _ _ _
            refine region ?_
            refine sv (yMove h7) ?_
            refine sv (yMove h9) ?_
            refine sv (yMove h11) ?_
            refine sv (yIxa rfl han rfl Tryz.runUnderlying62 Tryz.sizeOf70 (by omega) (by omega)) ?_
            refine sv (yLdA rfl Tryz.isAgg70 Tryz.sizeOf70 (flat_cells msgC_len (row_at (hS.row (.slice an (nextF t (restA t log now i) (now + (i : Int))).length cn)) han (by omega)) hx) rfl) ?_
            refine sbslice hS Tryz.underlying62 Tryz.sizeOf70 rfl Tryz.zeroValue70 rfl (.cons rfl rfl .nil) rfl ?_; clear hS; intro b122 w hS
            refine sapp (bytes := 40) (size := 5) (v := (.slice aw ((restA t log now i) ++ (nextF t (restA t log now i) (now + (i : Int))).take k).length cw)) (m := 1) hS rfl rfl Tryz.underlying62 ti70 rfl rfl rfl rfl (by decide) (blk_cells (hS.at _)) rfl rfl (by omega) (by omega) ?_; clear hS; intro v123 w hS
            refine sv (yAsg rfl) ?_
            refine nil ?_
            show Code.wp _ _ _ _ _
            refine region ?_
            refine sv (yMove h11) ?_
            refine sv (yAdd rfl rfl ⟨by omega, by omega⟩) ?_
            refine sv (yAsg rfl) ?_
            refine nil ?_
            exact ⟨_, _, rfl, ⟨k + 1, v123, h1, h2, h3, rfl, h8, h9, rfl, (by rw [take_snoc hx, ← List.append_assoc, List.flatMap_append, List.length_append]; simp only [List.flatMap_cons, List.flatMap_nil, List.append_nil, List.length_singleton]; exact hS.sub (.cons _ (List.Sublist.refl _))), (by omega), rfl⟩, by omega⟩
        ·
          simp only [Bool.and_eq_true, Bool.or_eq_true, Bool.and_eq_false_iff, Bool.or_eq_false_iff, decide_eq_true_eq, decide_eq_false_iff_not, Bool.not_eq_true, Bool.not_eq_false, Bool.not_not, Bool.not_eq_eq_eq_not, Bool.not_true, Bool.not_false, Bool.false_eq_true, Bool.true_eq_false, ne_eq, Decidable.not_not, not_false_eq_true, not_true_eq_false] at c75
          obtain rfl : k = (nextF t (restA t log now i) (now + (i : Int))).length := by omega
          rw [List.take_length] at hS
          obtain ⟨aw, cw, rfl⟩ := row_shape (hS.row v2)
          refine exit ?_
          show Code.wp _ _ _ _ _
          refine seq ?_
          refine seq ?_
          refine region ?_
          refine sv (yMove h9) ?_
          refine sv (yLen rfl Tryz.underlying62) ?_
          refine sv (yGtr rfl rfl) ?_
          refine nil ?_
          show Code.wp _ _ _ _ _
          refine cond rfl (fun c126 => ?_) (fun c126 => ?_)
          ·
            simp only [Bool.and_eq_true, Bool.or_eq_true, Bool.and_eq_false_iff, Bool.or_eq_false_iff, decide_eq_true_eq, decide_eq_false_iff_not, Bool.not_eq_true, Bool.not_eq_false, Bool.not_not, Bool.not_eq_eq_eq_not, Bool.not_true, Bool.not_false, Bool.false_eq_true, Bool.true_eq_false, ne_eq, Decidable.not_not, not_false_eq_true, not_true_eq_false] at c126
            refine exit ?_
            show Code.wp _ _ _ _ _
            refine region ?_
            refine sv (yMove h8) ?_
            refine sv (yAdd rfl rfl ⟨by omega, by omega⟩) ?_
            refine sv (yAsg rfl) ?_
            refine nil ?_
            exact ⟨_, _, rfl, ⟨i + 1, _, h1, h2, h3, h7, rfl, (hS.sub (.cons_cons _ (.cons _ (List.Sublist.refl _)))), (by omega), (.inr ⟨rest_succ hok hnw hil hRI, hck⟩), rfl⟩, by omega⟩
          ·
            simp only [Bool.and_eq_true, Bool.or_eq_true, Bool.and_eq_false_iff, Bool.or_eq_false_iff, decide_eq_true_eq, decide_eq_false_iff_not, Bool.not_eq_true, Bool.not_eq_false, Bool.not_not, Bool.not_eq_eq_eq_not, Bool.not_true, Bool.not_false, Bool.false_eq_true, Bool.true_eq_false, ne_eq, Decidable.not_not, not_false_eq_true, not_true_eq_false] at c126
            have hN : (nextF t (restA t log now i) (now + (i : Int))) = [] := List.eq_nil_of_length_eq_zero (by omega)
            have hAL : ((restA t log now i) ++ (nextF t (restA t log now i) (now + (i : Int)))) = (restA t log now i) := by rw [hN, List.append_nil]
            refine skip ?_
            show Code.wp _ _ _ _ _
            refine seq ?_
            refine seq ?_
            refine region ?_
            refine sv (yAsg rfl) ?_
            refine nil ?_
            show Code.wp _ _ _ _ _
            refine block ?_
            refine loop (fun f w zz => ∃ (k : Nat), f 1 = .slice al log.length cl ∧ f 2 = .int .i64 now ∧ f 3 = .pointer (some ⟨b3, 0, none⟩) ∧ f 7 = .slice aw ((restA t log now i) ++ (nextF t (restA t log now i) (now + (i : Int)))).length cw ∧ f 8 = .int .i64 (i : Int) ∧ f 12 = .int .i64 (k : Int) ∧ StX [] w0 w [rowI (.slice aw ((restA t log now i) ++ (nextF t (restA t log now i) (now + (i : Int)))).length cw) 70 5 (((restA t log now i) ++ (nextF t (restA t log now i) (now + (i : Int))))).length ((((restA t log now i) ++ (nextF t (restA t log now i) (now + (i : Int))))).flatMap msgC), blk b3 [.int .i64 t.polders, .slice a1 t.chans.length cap1, .slice a2 t.towns.length cap2, .slice a3 t.floods.length cap3] 26] ∧ (k ≤ t.towns.length) ∧ zz = t.towns.length - k) _ ⟨_, rfl, 0, h1, h2, h3, h7, h8, rfl, (hS.sub (.cons_cons _ (.cons _ (List.Sublist.refl _)))), (Nat.zero_le _), rfl⟩ ?_
            clear hS
            rintro f w _ ⟨k, h1, h2, h3, h7, h8, h12, hS, hk, rfl⟩
            refine seq ?_
            refine seq ?_
            refine region ?_
            refine sv (yMove h12) ?_
            refine sv (fa26_2 h3) ?_
            refine sv (yLdB rfl Tryz.isAgg23 (hS.at _) rfl) ?_
            refine sv (yLen rfl Tryz.underlying23) ?_
            refine sv (yLss rfl rfl) ?_
            refine nil ?_
            show Code.wp _ _ _ _ _
            refine cond rfl (fun c131 => ?_) (fun c131 => ?_)
            ·
              simp only [Bool.and_eq_true, Bool.or_eq_true, Bool.and_eq_false_iff, Bool.or_eq_false_iff, decide_eq_true_eq, decide_eq_false_iff_not, Bool.not_eq_true, Bool.not_eq_false, Bool.not_not, Bool.not_eq_eq_eq_not, Bool.not_true, Bool.not_false, Bool.false_eq_true, Bool.true_eq_false, ne_eq, Decidable.not_not, not_false_eq_true, not_true_eq_false] at c131
              have hib : 0 ≤ (k : Int) ∧ (k : Int) < t.towns.length := by omega
              obtain ⟨bt, ot, cst, hat, hlt, hcst, hRt, -⟩ := sl_at hsn (twn_i (t := t) hib)
              obtain ⟨dvt, rfl, -, -, -, -, hslt, -⟩ := hRt
              have hto := town_ok hok hib
              have htl := hto.lead
              obtain ⟨ad, cd, rfl, -⟩ := id hslt
              have hcl4 := chans_len hok hib
              obtain ⟨nn, hkn⟩ := rest_knows hck hnw hil hRI hib
              obtain ⟨e0, hz0, hs0⟩ : ∃ e0 : Int, e0 = 0 ∧ stageR t (k : Int) (now + (i : Int)) = (stageF t (k : Int) (now + (i : Int)), e0) := ⟨0, rfl, (stages_ok (a := (now + (i : Int))) (b := (now + (i : Int))) (by omega) (by omega) (ofE_of hck hib)).1⟩
              obtain ⟨e1, hz1, hk1⟩ : ∃ e1 : Int, e1 = 0 ∧ knowsR t ((restA t log now i) ++ (nextF t (restA t log now i) (now + (i : Int)))) (k : Int) ((now + (i : Int)) + 50) = (lastF (restA t log now i) (k : Int), nn, e1) := ⟨0, rfl, by rw [hAL]; exact hkn⟩
              refine skip ?_
              show Code.wp _ _ _ _ _
              refine seq ?_
              refine block ?_
              refine seq ?_
              refine region ?_
              refine sv (yAsg rfl) ?_
              refine nil ?_
              show Code.wp _ _ _ _ _
              refine seq ?_
              refine seq ?_
              refine region ?_
              refine sv (yAsg rfl) ?_
              refine nil ?_
              show Code.wp _ _ _ _ _
              refine block ?_
              refine loop (fun f w zz => ∃ (c : Nat), f 1 = .slice al log.length cl ∧ f 2 = .int .i64 now ∧ f 3 = .pointer (some ⟨b3, 0, none⟩) ∧ f 7 = .slice aw ((restA t log now i) ++ (nextF t (restA t log now i) (now + (i : Int)))).length cw ∧ f 8 = .int .i64 (i : Int) ∧ f 12 = .int .i64 (k : Int) ∧ f 13 = .int .i64 (roomM t (twn t (k : Int)) c) ∧ f 14 = .int .i64 (c : Int) ∧ StX [] w0 w [rowI (.slice aw ((restA t log now i) ++ (nextF t (restA t log now i) (now + (i : Int)))).length cw) 70 5 (((restA t log now i) ++ (nextF t (restA t log now i) (now + (i : Int))))).length ((((restA t log now i) ++ (nextF t (restA t log now i) (now + (i : Int))))).flatMap msgC), blk b3 [.int .i64 t.polders, .slice a1 t.chans.length cap1, .slice a2 t.towns.length cap2, .slice a3 t.floods.length cap3] 26] ∧ (c ≤ (twn t (k : Int)).chans.length) ∧ zz = (twn t (k : Int)).chans.length - c) _ ⟨_, rfl, 0, h1, h2, h3, h7, h8, h12, rfl, rfl, hS, (Nat.zero_le _), rfl⟩ ?_
              clear hS
              rintro f w _ ⟨c, h1, h2, h3, h7, h8, h12, h13, h14, hS, hc, rfl⟩
              refine seq ?_
              refine seq ?_
              refine region ?_
              refine sv (yMove h14) ?_
              refine sv (fa26_2 h3) ?_
              refine sv (yLdB rfl Tryz.isAgg23 (hS.at _) rfl) ?_
              refine sv (yMove h12) ?_
              refine sv (yIxa rfl hat rfl Tryz.runUnderlying23 Tryz.sizeOf36 (by omega) (by omega)) ?_
              refine sv (fa36_4 rfl) ?_
              refine sv (yLd rfl Tryz.isAgg34 ((hcst.ext hS.ext).at (j := 4) rfl)) ?_
              refine sv (yLen rfl Tryz.underlying34) ?_
              refine sv (yLss rfl rfl) ?_
              refine nil ?_
              show Code.wp _ _ _ _ _
              refine cond rfl (fun c142 => ?_) (fun c142 => ?_)
              ·
                simp only [Bool.and_eq_true, Bool.or_eq_true, Bool.and_eq_false_iff, Bool.or_eq_false_iff, decide_eq_true_eq, decide_eq_false_iff_not, Bool.not_eq_true, Bool.not_eq_false, Bool.not_not, Bool.not_eq_eq_eq_not, Bool.not_true, Bool.not_false, Bool.false_eq_true, Bool.true_eq_false, ne_eq, Decidable.not_not, not_false_eq_true, not_true_eq_false] at c142
                obtain ⟨cc, hcx, -⟩ := drop_of (l := (twn t (k : Int)).chans) (k := c) (by omega)
                obtain ⟨bk, oq, csk, hak, hlk, hcsk, hRk, -⟩ := sl_at hslt hcx
                obtain ⟨rfl, -⟩ := hRk
                have hcb := chan_mem hok (List.mem_of_getElem? hcx)
                obtain ⟨bc, oc, csc, hac, hlc, hcsc, hRc, -⟩ := sl_at hsh (chn_i (t := t) hcb)
                obtain ⟨rfl, -⟩ := hRc
                have hco := chan_ok hok hcb
                refine skip ?_
                show Code.wp _ _ _ _ _
                refine seq ?_
                refine block ?_
                refine seq ?_
                refine region ?_
                refine sv (fa26_2 h3) ?_
                refine sv (yLdB rfl Tryz.isAgg23 (hS.at _) rfl) ?_
                refine sv (yMove h12) ?_
                refine sv (yIxa rfl hat rfl Tryz.runUnderlying23 Tryz.sizeOf36 (by omega) (by omega)) ?_
                refine sv (fa36_4 rfl) ?_
                refine sv (yLd rfl Tryz.isAgg34 ((hcst.ext hS.ext).at (j := 4) rfl)) ?_
                refine sv (yMove h14) ?_
                refine sv (yIxa rfl hak rfl Tryz.runUnderlying34 Tryz.sizeOf3 (by omega) (by omega)) ?_
                refine sv (yLd rfl Tryz.isAgg3 ((hcsk.ext hS.ext).one)) ?_
                refine sv (yAsg rfl) ?_
                refine nil ?_
                show Code.wp _ _ _ _ _
                refine seq ?_
                refine region ?_
                refine sv (yMove rfl) ?_
                refine sv (yGeq rfl rfl) ?_
                refine sv (yMove rfl) ?_
                refine sg rfl rfl rfl (fun g => (yMove rfl)) (fun v157 g157 => ?_)
                refine sg rfl rfl rfl (fun g => (fa26_1 h3)) (fun v158 g158 => ?_)
                refine sg rfl rfl rfl (fun g => (yLdB (g158.1 g) Tryz.isAgg22 (hS.at _) rfl)) (fun v159 g159 => ?_)
                refine sg rfl rfl rfl (fun g => (yLen (g159.1 g) Tryz.underlying22)) (fun v160 g160 => ?_)
                refine sg rfl rfl rfl (fun g => (yLss (g157.1 g) (g160.1 g))) (fun v161 g161 => ?_)
                refine sv (yAnd rfl (fun hB => (g161.1 hB)) rfl) ?_
                refine nil ?_
                show Code.wp _ _ _ _ _
                refine cond rfl (fun c162 => ?_) (fun c162 => ?_)
                ·
                  simp only [Bool.and_eq_true, Bool.or_eq_true, Bool.and_eq_false_iff, Bool.or_eq_false_iff, decide_eq_true_eq, decide_eq_false_iff_not, Bool.not_eq_true, Bool.not_eq_false, Bool.not_not, Bool.not_eq_eq_eq_not, Bool.not_true, Bool.not_false, Bool.false_eq_true, Bool.true_eq_false, ne_eq, Decidable.not_not, not_false_eq_true, not_true_eq_false] at c162
                  refine region ?_
                  refine sv (yMove h13) ?_
                  refine sv (fa26_1 h3) ?_
                  refine sv (yLdB rfl Tryz.isAgg22 (hS.at _) rfl) ?_
                  refine sv (yMove rfl) ?_
                  refine sv (yIxa rfl hac rfl Tryz.runUnderlying22 Tryz.sizeOf41 (by omega) (by omega)) ?_
                  refine sv (fa41_2 rfl) ?_
                  refine sv (yLd rfl Tryz.isAgg3 ((hcsc.ext hS.ext).at (j := 2) rfl)) ?_
                  refine sv (yMax rfl rfl) ?_
                  refine sv (yAsg rfl) ?_
                  refine nil ?_
                  show Code.wp _ _ _ _ _
                  refine region ?_
                  refine sv (yMove h14) ?_
                  refine sv (yAdd rfl rfl ⟨by omega, by omega⟩) ?_
                  refine sv (yAsg rfl) ?_
                  refine nil ?_
                  exact ⟨_, _, rfl, ⟨c + 1, h1, h2, h3, h7, h8, h12, (rfl.trans (congrArg (Value.int .i64) ((roomM_succ hcx).symm))), rfl, hS, (by omega), rfl⟩, by omega⟩
                ·
                  simp only [Bool.and_eq_true, Bool.or_eq_true, Bool.and_eq_false_iff, Bool.or_eq_false_iff, decide_eq_true_eq, decide_eq_false_iff_not, Bool.not_eq_true, Bool.not_eq_false, Bool.not_not, Bool.not_eq_eq_eq_not, Bool.not_true, Bool.not_false, Bool.false_eq_true, Bool.true_eq_false, ne_eq, Decidable.not_not, not_false_eq_true, not_true_eq_false] at c162
                  exfalso; omega
              ·
                simp only [Bool.and_eq_true, Bool.or_eq_true, Bool.and_eq_false_iff, Bool.or_eq_false_iff, decide_eq_true_eq, decide_eq_false_iff_not, Bool.not_eq_true, Bool.not_eq_false, Bool.not_not, Bool.not_eq_eq_eq_not, Bool.not_true, Bool.not_false, Bool.false_eq_true, Bool.true_eq_false, ne_eq, Decidable.not_not, not_false_eq_true, not_true_eq_false] at c142
                obtain rfl : c = (twn t (k : Int)).chans.length := by omega
                have hrm := fun hh => (roomM_pos (t := t) (x := twn t (k : Int)) _ (Nat.le_refl _)).2 hh
                have hfin : 0 < roomM t (twn t (k : Int)) (twn t (k : Int)).chans.length → lastF (restA t log now i) (k : Int) = stageF t (k : Int) (now + (i : Int)) := fun hh => by obtain ⟨c, hc1, hc2⟩ := hrm hh; exact rest_last hRI hN hib hc1 hc2
                refine exit ?_
                show Code.wp _ _ _ _ _
                refine seq ?_
                refine region ?_
                refine sv (yLdBA h3 Tryz.isAgg26 Tryz.sizeOf26 (hS.at _) rfl rfl) ?_
                refine sv (yMove h12) ?_
                refine sv (yMove h2) ?_
                refine sv (yMove h8) ?_
                refine sv (yAdd rfl rfl ⟨by omega, by omega⟩) ?_
                refine scall Tryz.call25 (.cons rfl (.cons rfl (.cons rfl .nil))) (c_Stage (hg.ext hS.ext) (h.ext hS.ext)) ?_
                rw [hs0]
                rintro _ w ⟨rfl, hE⟩; replace hS := hS.step hE; clear hE
                refine sv (yMove rfl) ?_
                refine sv (yExt rfl rfl) ?_
                refine sv (yExt rfl rfl) ?_
                refine sv (yAsg rfl) ?_
                refine sv (yAsg rfl) ?_
                refine nil ?_
                show Code.wp _ _ _ _ _
                refine seq ?_
                refine region ?_
                refine sv (yLdBA h3 Tryz.isAgg26 Tryz.sizeOf26 (hS.at _) rfl rfl) ?_
                refine sv (yMove h7) ?_
                refine sv (yMove h12) ?_
                refine sv (yMove h2) ?_
                refine sv (yMove h8) ?_
                refine sv (yAdd rfl rfl ⟨by omega, by omega⟩) ?_
                refine sv (yAdd rfl rfl ⟨by omega, by omega⟩) ?_
                refine scall Tryz.call31 (.cons rfl (.cons rfl (.cons rfl (.cons rfl .nil)))) (c_Knows (hg.ext hS.ext) (h.ext hS.ext) (sl_msgs (hS.row (.slice aw ((restA t log now i) ++ (nextF t (restA t log now i) (now + (i : Int)))).length cw)) rfl (by rw [hAL]; exact hms))) ?_
                rw [hk1]
                rintro _ w ⟨rfl, hE⟩; replace hS := hS.step hE; clear hE
                refine sv (yMove rfl) ?_
                refine sv (yExt rfl rfl) ?_
                refine sv (yExt rfl rfl) ?_
                refine sv (yExt rfl rfl) ?_
                refine sv (yAsg rfl) ?_
                refine sv (yAsg rfl) ?_
                refine sv (yAsg rfl) ?_
                refine nil ?_
                show Code.wp _ _ _ _ _
                refine seq ?_
                refine region ?_
                refine sv (yMove rfl) ?_
                refine sv (yNeq rfl rfl) ?_
                refine sv (yMove rfl) ?_
                refine sg rfl rfl rfl (fun g => (yMove rfl)) (fun v195 g195 => ?_)
                refine sg rfl rfl rfl (fun g => (yNeq (g195.1 g) rfl)) (fun v196 g196 => ?_)
                refine sv (yOr rfl rfl (fun hB => (g196.1 hB))) ?_
                refine sv (yMove rfl) ?_
                refine sg rfl rfl rfl (fun g => (yMove h13)) (fun v199 g199 => ?_)
                refine sg rfl rfl rfl (fun g => (yGtr (g199.1 g) rfl)) (fun v200 g200 => ?_)
                refine sg rfl rfl rfl (fun g => (yMove (g200.1 g))) (fun v201 g201 => ?_)
                refine sgg rfl rfl g201 (fun g => (yMove rfl)) (fun v202 g202 => ?_)
                refine sgg rfl rfl g201 (fun g => (yMove rfl)) (fun v203 g203 => ?_)
                refine sgg rfl rfl g201 (fun g => (yNeq (g202.1 g) (g203.1 g))) (fun v204 g204 => ?_)
                refine sg rfl rfl rfl (fun g => (yAnd (g201.1 g) (fun hB => (g204.1 ⟨g, hB⟩)) rfl)) (fun v205 g205 => ?_)
                refine sv (yOr rfl rfl (fun hB => (g205.1 hB))) ?_
                refine nil ?_
                show Code.wp _ _ _ _ _
                refine cond rfl (fun c206 => ?_) (fun c206 => ?_)
                ·
                  simp only [Bool.and_eq_true, Bool.or_eq_true, Bool.and_eq_false_iff, Bool.or_eq_false_iff, decide_eq_true_eq, decide_eq_false_iff_not, Bool.not_eq_true, Bool.not_eq_false, Bool.not_not, Bool.not_eq_eq_eq_not, Bool.not_true, Bool.not_false, Bool.false_eq_true, Bool.true_eq_false, ne_eq, Decidable.not_not, not_false_eq_true, not_true_eq_false] at c206
                  exfalso; omega
                ·
                  simp only [Bool.and_eq_true, Bool.or_eq_true, Bool.and_eq_false_iff, Bool.or_eq_false_iff, decide_eq_true_eq, decide_eq_false_iff_not, Bool.not_eq_true, Bool.not_eq_false, Bool.not_not, Bool.not_eq_eq_eq_not, Bool.not_true, Bool.not_false, Bool.false_eq_true, Bool.true_eq_false, ne_eq, Decidable.not_not, not_false_eq_true, not_true_eq_false] at c206
                  refine skip ?_
                  show Code.wp _ _ _ _ _
                  refine region ?_
                  refine sv (yMove h12) ?_
                  refine sv (yAdd rfl rfl ⟨by omega, by omega⟩) ?_
                  refine sv (yAsg rfl) ?_
                  refine nil ?_
                  exact ⟨_, _, rfl, ⟨k + 1, h1, h2, h3, h7, h8, rfl, hS, (by omega), rfl⟩, by omega⟩
            ·
              simp only [Bool.and_eq_true, Bool.or_eq_true, Bool.and_eq_false_iff, Bool.or_eq_false_iff, decide_eq_true_eq, decide_eq_false_iff_not, Bool.not_eq_true, Bool.not_eq_false, Bool.not_not, Bool.not_eq_eq_eq_not, Bool.not_true, Bool.not_false, Bool.false_eq_true, Bool.true_eq_false, ne_eq, Decidable.not_not, not_false_eq_true, not_true_eq_false] at c131
              refine exit ?_
              show Code.wp _ _ _ _ _
              refine seq ?_
              refine region ?_
              refine scall Tryz.call20 .nil (c_Awake (hg.ext hS.ext)) ?_
              rintro _ w ⟨rfl, hE⟩; replace hS := hS.step hE; clear hE
              refine sv (yAsg rfl) ?_
              refine nil ?_
              show Code.wp _ _ _ _ _
              refine wp_ret (blockR (thenR (thenR (blockR (thenR ?_)))))
              exact retV (res1 rfl rfl) hS.ext
    ·
      simp only [Bool.and_eq_true, Bool.or_eq_true, Bool.and_eq_false_iff, Bool.or_eq_false_iff, decide_eq_true_eq, decide_eq_false_iff_not, Bool.not_eq_true, Bool.not_eq_false, Bool.not_not, Bool.not_eq_eq_eq_not, Bool.not_true, Bool.not_false, Bool.false_eq_true, Bool.true_eq_false, ne_eq, Decidable.not_not, not_false_eq_true, not_true_eq_false] at c53
      refine exit ?_
      show Code.wp _ _ _ _ _
      refine seq ?_
      refine region ?_
      refine scall Tryz.call20 .nil (c_Awake (hg.ext hS.ext)) ?_
      rintro _ w ⟨rfl, hE⟩; replace hS := hS.step hE; clear hE
      refine sv (yAsg rfl) ?_
      refine nil ?_
      show Code.wp _ _ _ _ _
      refine wp_ret ?_
      exact retV (res1 rfl rfl) hS.ext
end Go.Proofs.YtmoilbakmlekbaaGreatDoor

/- part RdF -/
namespace Go.Proofs.YtmoilbakmlekbaaGreatDoor
open Go Bx
section
variable {H : Type} {enc : TypeId × Value → H} {w : World} {base : Nat} {spare : Nat → Bool} {held : Bool} {fuel : Nat} {cs : List Value} {x : DataW H × List MemPlace}
theorem rdF26 (h : DataW.trod enc Tryz.prog w base spare held fuel 26 cs = some x) (hW : WOk Tryz.prog 26 x.1) : ∃ n c0 c1 c2 c3, cs = [c0, c1, c2, c3] ∧ (∃ y, DataW.trod enc Tryz.prog w base spare held n 3 [c0] = some y ∧ WOk Tryz.prog 3 y.1) ∧ (∃ y, DataW.trod enc Tryz.prog w base spare held n 22 [c1] = some y ∧ WOk Tryz.prog 22 y.1) ∧ (∃ y, DataW.trod enc Tryz.prog w base spare held n 23 [c2] = some y ∧ WOk Tryz.prog 23 y.1) ∧ (∃ y, DataW.trod enc Tryz.prog w base spare held n 24 [c3] = some y ∧ WOk Tryz.prog 24 y.1) := by
  have z3 : Tryz.prog.cellsOf 3 = 1 := by kernel_rfl
  have z22 : Tryz.prog.cellsOf 22 = 1 := by kernel_rfl
  have z23 : Tryz.prog.cellsOf 23 = 1 := by kernel_rfl
  have z24 : Tryz.prog.cellsOf 24 = 1 := by kernel_rfl
  obtain ⟨hl, n, hf⟩ := rdw_fields Tryz.underlying26 h hW
  have hz : Tryz.prog.cellsOf 26 = 4 := by kernel_rfl
  rw [hz] at hl
  obtain ⟨c0, c1, c2, c3, rfl⟩ := four_of hl
  have f0 : ∃ y, DataW.trod enc Tryz.prog w base spare held n 3 ((List.drop 0 [c0, c1, c2, c3]).take (Tryz.prog.cellsOf 3)) = some y ∧ WOk Tryz.prog 3 y.1 := hf 0 _ rfl
  rw [z3] at f0
  have f1 : ∃ y, DataW.trod enc Tryz.prog w base spare held n 22 ((List.drop 1 [c0, c1, c2, c3]).take (Tryz.prog.cellsOf 22)) = some y ∧ WOk Tryz.prog 22 y.1 := hf 1 _ rfl
  rw [z22] at f1
  have f2 : ∃ y, DataW.trod enc Tryz.prog w base spare held n 23 ((List.drop 2 [c0, c1, c2, c3]).take (Tryz.prog.cellsOf 23)) = some y ∧ WOk Tryz.prog 23 y.1 := hf 2 _ rfl
  rw [z23] at f2
  have f3 : ∃ y, DataW.trod enc Tryz.prog w base spare held n 24 ((List.drop 3 [c0, c1, c2, c3]).take (Tryz.prog.cellsOf 24)) = some y ∧ WOk Tryz.prog 24 y.1 := hf 3 _ rfl
  rw [z24] at f3
  exact ⟨n, c0, c1, c2, c3, rfl, f0, f1, f2, f3⟩
theorem rdF36 (h : DataW.trod enc Tryz.prog w base spare held fuel 36 cs = some x) (hW : WOk Tryz.prog 36 x.1) : ∃ n c0 c1 c2 c3 c4, cs = [c0, c1, c2, c3, c4] ∧ (∃ y, DataW.trod enc Tryz.prog w base spare held n 9 [c0] = some y ∧ WOk Tryz.prog 9 y.1) ∧ (∃ y, DataW.trod enc Tryz.prog w base spare held n 3 [c1] = some y ∧ WOk Tryz.prog 3 y.1) ∧ (∃ y, DataW.trod enc Tryz.prog w base spare held n 3 [c2] = some y ∧ WOk Tryz.prog 3 y.1) ∧ (∃ y, DataW.trod enc Tryz.prog w base spare held n 3 [c3] = some y ∧ WOk Tryz.prog 3 y.1) ∧ (∃ y, DataW.trod enc Tryz.prog w base spare held n 34 [c4] = some y ∧ WOk Tryz.prog 34 y.1) := by
  have z3 : Tryz.prog.cellsOf 3 = 1 := by kernel_rfl
  have z9 : Tryz.prog.cellsOf 9 = 1 := by kernel_rfl
  have z34 : Tryz.prog.cellsOf 34 = 1 := by kernel_rfl
  obtain ⟨hl, n, hf⟩ := rdw_fields Tryz.underlying36 h hW
  have hz : Tryz.prog.cellsOf 36 = 5 := by kernel_rfl
  rw [hz] at hl
  obtain ⟨c0, c1, c2, c3, c4, rfl⟩ := five_of hl
  have f0 : ∃ y, DataW.trod enc Tryz.prog w base spare held n 9 ((List.drop 0 [c0, c1, c2, c3, c4]).take (Tryz.prog.cellsOf 9)) = some y ∧ WOk Tryz.prog 9 y.1 := hf 0 _ rfl
  rw [z9] at f0
  have f1 : ∃ y, DataW.trod enc Tryz.prog w base spare held n 3 ((List.drop 1 [c0, c1, c2, c3, c4]).take (Tryz.prog.cellsOf 3)) = some y ∧ WOk Tryz.prog 3 y.1 := hf 1 _ rfl
  rw [z3] at f1
  have f2 : ∃ y, DataW.trod enc Tryz.prog w base spare held n 3 ((List.drop 2 [c0, c1, c2, c3, c4]).take (Tryz.prog.cellsOf 3)) = some y ∧ WOk Tryz.prog 3 y.1 := hf 2 _ rfl
  rw [z3] at f2
  have f3 : ∃ y, DataW.trod enc Tryz.prog w base spare held n 3 ((List.drop 3 [c0, c1, c2, c3, c4]).take (Tryz.prog.cellsOf 3)) = some y ∧ WOk Tryz.prog 3 y.1 := hf 3 _ rfl
  rw [z3] at f3
  have f4 : ∃ y, DataW.trod enc Tryz.prog w base spare held n 34 ((List.drop 4 [c0, c1, c2, c3, c4]).take (Tryz.prog.cellsOf 34)) = some y ∧ WOk Tryz.prog 34 y.1 := hf 4 _ rfl
  rw [z34] at f4
  exact ⟨n, c0, c1, c2, c3, c4, rfl, f0, f1, f2, f3, f4⟩
theorem rdF41 (h : DataW.trod enc Tryz.prog w base spare held fuel 41 cs = some x) (hW : WOk Tryz.prog 41 x.1) : ∃ n c0 c1 c2, cs = [c0, c1, c2] ∧ (∃ y, DataW.trod enc Tryz.prog w base spare held n 9 [c0] = some y ∧ WOk Tryz.prog 9 y.1) ∧ (∃ y, DataW.trod enc Tryz.prog w base spare held n 3 [c1] = some y ∧ WOk Tryz.prog 3 y.1) ∧ (∃ y, DataW.trod enc Tryz.prog w base spare held n 3 [c2] = some y ∧ WOk Tryz.prog 3 y.1) := by
  have z3 : Tryz.prog.cellsOf 3 = 1 := by kernel_rfl
  have z9 : Tryz.prog.cellsOf 9 = 1 := by kernel_rfl
  obtain ⟨hl, n, hf⟩ := rdw_fields Tryz.underlying41 h hW
  have hz : Tryz.prog.cellsOf 41 = 3 := by kernel_rfl
  rw [hz] at hl
  obtain ⟨c0, c1, c2, rfl⟩ := three_of hl
  have f0 : ∃ y, DataW.trod enc Tryz.prog w base spare held n 9 ((List.drop 0 [c0, c1, c2]).take (Tryz.prog.cellsOf 9)) = some y ∧ WOk Tryz.prog 9 y.1 := hf 0 _ rfl
  rw [z9] at f0
  have f1 : ∃ y, DataW.trod enc Tryz.prog w base spare held n 3 ((List.drop 1 [c0, c1, c2]).take (Tryz.prog.cellsOf 3)) = some y ∧ WOk Tryz.prog 3 y.1 := hf 1 _ rfl
  rw [z3] at f1
  have f2 : ∃ y, DataW.trod enc Tryz.prog w base spare held n 3 ((List.drop 2 [c0, c1, c2]).take (Tryz.prog.cellsOf 3)) = some y ∧ WOk Tryz.prog 3 y.1 := hf 2 _ rfl
  rw [z3] at f2
  exact ⟨n, c0, c1, c2, rfl, f0, f1, f2⟩
theorem rdF70 (h : DataW.trod enc Tryz.prog w base spare held fuel 70 cs = some x) (hW : WOk Tryz.prog 70 x.1) : ∃ n c0 c1 c2 c3 c4, cs = [c0, c1, c2, c3, c4] ∧ (∃ y, DataW.trod enc Tryz.prog w base spare held n 3 [c0] = some y ∧ WOk Tryz.prog 3 y.1) ∧ (∃ y, DataW.trod enc Tryz.prog w base spare held n 3 [c1] = some y ∧ WOk Tryz.prog 3 y.1) ∧ (∃ y, DataW.trod enc Tryz.prog w base spare held n 3 [c2] = some y ∧ WOk Tryz.prog 3 y.1) ∧ (∃ y, DataW.trod enc Tryz.prog w base spare held n 3 [c3] = some y ∧ WOk Tryz.prog 3 y.1) ∧ (∃ y, DataW.trod enc Tryz.prog w base spare held n 3 [c4] = some y ∧ WOk Tryz.prog 3 y.1) := by
  have z3 : Tryz.prog.cellsOf 3 = 1 := by kernel_rfl
  obtain ⟨hl, n, hf⟩ := rdw_fields Tryz.underlying70 h hW
  have hz : Tryz.prog.cellsOf 70 = 5 := by kernel_rfl
  rw [hz] at hl
  obtain ⟨c0, c1, c2, c3, c4, rfl⟩ := five_of hl
  have f0 : ∃ y, DataW.trod enc Tryz.prog w base spare held n 3 ((List.drop 0 [c0, c1, c2, c3, c4]).take (Tryz.prog.cellsOf 3)) = some y ∧ WOk Tryz.prog 3 y.1 := hf 0 _ rfl
  rw [z3] at f0
  have f1 : ∃ y, DataW.trod enc Tryz.prog w base spare held n 3 ((List.drop 1 [c0, c1, c2, c3, c4]).take (Tryz.prog.cellsOf 3)) = some y ∧ WOk Tryz.prog 3 y.1 := hf 1 _ rfl
  rw [z3] at f1
  have f2 : ∃ y, DataW.trod enc Tryz.prog w base spare held n 3 ((List.drop 2 [c0, c1, c2, c3, c4]).take (Tryz.prog.cellsOf 3)) = some y ∧ WOk Tryz.prog 3 y.1 := hf 2 _ rfl
  rw [z3] at f2
  have f3 : ∃ y, DataW.trod enc Tryz.prog w base spare held n 3 ((List.drop 3 [c0, c1, c2, c3, c4]).take (Tryz.prog.cellsOf 3)) = some y ∧ WOk Tryz.prog 3 y.1 := hf 3 _ rfl
  rw [z3] at f3
  have f4 : ∃ y, DataW.trod enc Tryz.prog w base spare held n 3 ((List.drop 4 [c0, c1, c2, c3, c4]).take (Tryz.prog.cellsOf 3)) = some y ∧ WOk Tryz.prog 3 y.1 := hf 4 _ rfl
  rw [z3] at f4
  exact ⟨n, c0, c1, c2, c3, c4, rfl, f0, f1, f2, f3, f4⟩
end
end Go.Proofs.YtmoilbakmlekbaaGreatDoor

/- part Rd1 -/
namespace Go.Proofs.YtmoilbakmlekbaaGreatDoor
open Go Bx
theorem rd_Ints : RdW Tryz.prog 34 (fun w cs (l : List Int) => ∃ v, cs = [v] ∧ Sl w 1 RInt v l ∧ l.length * 8 ≤ 140737488351232) := rdw_slice (Rd.w (rd_int Tryz.underlying3)) (by kernel_rfl) (by decide) Tryz.underlying34 (by kernel_rfl)
theorem rd_Row : RdW Tryz.prog 34 RRow := fun H enc w base spare held fuel cs x h hW => by obtain ⟨a, v, e, i, -⟩ := rd_Ints H enc w base spare held fuel cs x h hW; exact ⟨a, v, e, i⟩
theorem rd_Rows : RdW Tryz.prog 24 (fun w cs (l : List (List Int)) => ∃ v, cs = [v] ∧ Sl w 1 RRow v l ∧ l.length * 24 ≤ 140737488351232) := rdw_slice rd_Row (by kernel_rfl) (by decide) Tryz.underlying24 (by kernel_rfl)
theorem rd_Chan : RdW Tryz.prog 41 RChan := by
  intro H enc w base spare held fuel cs x h hW
  obtain ⟨n, c0, c1, c2, rfl, ⟨y0, f0, k0⟩, ⟨y1, f1, k1⟩, ⟨y2, f2, k2⟩⟩ := rdF41 h hW
  obtain ⟨a0, g0⟩ := (Rd.w (rd_str Tryz.underlying9)) _ _ _ _ _ _ _ _ _ f0 k0
  obtain ⟨a1, g1⟩ := (Rd.w (rd_int Tryz.underlying3)) _ _ _ _ _ _ _ _ _ f1 k1
  obtain ⟨a2, g2⟩ := (Rd.w (rd_int Tryz.underlying3)) _ _ _ _ _ _ _ _ _ f2 k2
  obtain ⟨e0, i0⟩ := g0; obtain ⟨e1, i1⟩ := g1; obtain ⟨e2, i2⟩ := g2; cases e0; cases e1; cases e2; exact ⟨⟨a0, a1, a2⟩, rfl, i0, i1, i2⟩
theorem rd_Chans : RdW Tryz.prog 22 (fun w cs (l : List Chan) => ∃ v, cs = [v] ∧ Sl w 3 RChan v l ∧ l.length * 32 ≤ 140737488351232) := rdw_slice rd_Chan (by kernel_rfl) (by decide) Tryz.underlying22 (by kernel_rfl)
theorem rd_Town : RdW Tryz.prog 36 RTown := by
  intro H enc w base spare held fuel cs x h hW
  obtain ⟨n, c0, c1, c2, c3, c4, rfl, ⟨y0, f0, k0⟩, ⟨y1, f1, k1⟩, ⟨y2, f2, k2⟩, ⟨y3, f3, k3⟩, ⟨y4, f4, k4⟩⟩ := rdF36 h hW
  obtain ⟨a0, g0⟩ := (Rd.w (rd_str Tryz.underlying9)) _ _ _ _ _ _ _ _ _ f0 k0
  obtain ⟨a1, g1⟩ := (Rd.w (rd_int Tryz.underlying3)) _ _ _ _ _ _ _ _ _ f1 k1
  obtain ⟨a2, g2⟩ := (Rd.w (rd_int Tryz.underlying3)) _ _ _ _ _ _ _ _ _ f2 k2
  obtain ⟨a3, g3⟩ := (Rd.w (rd_int Tryz.underlying3)) _ _ _ _ _ _ _ _ _ f3 k3
  obtain ⟨a4, g4⟩ := rd_Ints _ _ _ _ _ _ _ _ _ f4 k4
  obtain ⟨e0, i0⟩ := g0; obtain ⟨e1, i1⟩ := g1; obtain ⟨e2, i2⟩ := g2; obtain ⟨e3, i3⟩ := g3; obtain ⟨v4, e4, i4, r4⟩ := g4; cases e0; cases e1; cases e2; cases e3; cases e4; exact ⟨⟨a0, a1, a2, a3, a4⟩, _, rfl, i0, i1, i2, i3, i4, r4⟩
theorem rd_Towns : RdW Tryz.prog 23 (fun w cs (l : List Town) => ∃ v, cs = [v] ∧ Sl w 5 RTown v l ∧ l.length * 64 ≤ 140737488351232) := rdw_slice rd_Town (by kernel_rfl) (by decide) Tryz.underlying23 (by kernel_rfl)
theorem rd_Task : RdW Tryz.prog 26 RTask := by
  intro H enc w base spare held fuel cs x h hW
  obtain ⟨n, c0, c1, c2, c3, rfl, ⟨y0, f0, k0⟩, ⟨y1, f1, k1⟩, ⟨y2, f2, k2⟩, ⟨y3, f3, k3⟩⟩ := rdF26 h hW
  obtain ⟨a0, g0⟩ := (Rd.w (rd_int Tryz.underlying3)) _ _ _ _ _ _ _ _ _ f0 k0
  obtain ⟨a1, g1⟩ := rd_Chans _ _ _ _ _ _ _ _ _ f1 k1
  obtain ⟨a2, g2⟩ := rd_Towns _ _ _ _ _ _ _ _ _ f2 k2
  obtain ⟨a3, g3⟩ := rd_Rows _ _ _ _ _ _ _ _ _ f3 k3
  obtain ⟨e0, i0⟩ := g0; obtain ⟨v1, e1, i1, r1⟩ := g1; obtain ⟨v2, e2, i2, r2⟩ := g2; obtain ⟨v3, e3, i3, r3⟩ := g3; cases e0; cases e1; cases e2; cases e3; exact ⟨⟨a0, a1, a2, a3⟩, _, _, _, rfl, i0, i1, i2, i3⟩
theorem rd_Msg : RdW Tryz.prog 70 RMsg := by
  intro H enc w base spare held fuel cs x h hW
  obtain ⟨n, c0, c1, c2, c3, c4, rfl, ⟨y0, f0, k0⟩, ⟨y1, f1, k1⟩, ⟨y2, f2, k2⟩, ⟨y3, f3, k3⟩, ⟨y4, f4, k4⟩⟩ := rdF70 h hW
  obtain ⟨a0, g0⟩ := (Rd.w (rd_int Tryz.underlying3)) _ _ _ _ _ _ _ _ _ f0 k0
  obtain ⟨a1, g1⟩ := (Rd.w (rd_int Tryz.underlying3)) _ _ _ _ _ _ _ _ _ f1 k1
  obtain ⟨a2, g2⟩ := (Rd.w (rd_int Tryz.underlying3)) _ _ _ _ _ _ _ _ _ f2 k2
  obtain ⟨a3, g3⟩ := (Rd.w (rd_int Tryz.underlying3)) _ _ _ _ _ _ _ _ _ f3 k3
  obtain ⟨a4, g4⟩ := (Rd.w (rd_int Tryz.underlying3)) _ _ _ _ _ _ _ _ _ f4 k4
  obtain ⟨e0, i0⟩ := g0; obtain ⟨e1, i1⟩ := g1; obtain ⟨e2, i2⟩ := g2; obtain ⟨e3, i3⟩ := g3; obtain ⟨e4, i4⟩ := g4; cases e0; cases e1; cases e2; cases e3; cases e4; exact ⟨⟨a0, a1, a2, a3, a4⟩, rfl, i0, i1, i2, i3, i4⟩
theorem rd_Msgs : RdW Tryz.prog 62 (fun w cs (l : List Msg) => ∃ v, cs = [v] ∧ Sl w 5 RMsg v l ∧ l.length * 40 ≤ 140737488351232) := rdw_slice rd_Msg (by kernel_rfl) (by decide) Tryz.underlying62 (by kernel_rfl)
end Go.Proofs.YtmoilbakmlekbaaGreatDoor

/- part Laid -/
namespace Go.Proofs.YtmoilbakmlekbaaGreatDoor
open Go Bx Go.ChangeShapes Go.WideShapes Go.RowKit
theorem laidEt : Tryz.prog.globalNamed "errors.errorType" = some 0 := by kernel_rfl
theorem laidRt : (Tryz.prog.cutTypes.find? (·.1 == "internal/reflectlite.rtype")).map (·.2) = some 217 := by kernel_rfl
theorem laidOne : ((List.range 309).filter fun t => Tryz.prog.rowNamed t [101, 114, 114, 111, 114]) = [120] := by kernel_rfl
theorem laidSize : Tryz.prog.types.size = 309 := by kernel_rfl
theorem glb_of_laid {W : World} (h : laidMetH Tryz.prog [("errors.errorType", Rows.laid_errors_errorType)] W) : Glb W := by
  have h' : laidMet Tryz.prog [] W ∧ handlesMet Tryz.prog [("errors.errorType", Rows.laid_errors_errorType)] W := h
  obtain ⟨name, u, ty, e1, e2, e3, e4, e5⟩ := h'.2 _ (List.mem_singleton.2 rfl)
  have en : name = [101, 114, 114, 111, 114] := (Option.some.inj e1).symm
  subst en
  obtain rfl := Option.some.inj (laidRt.symm.trans e2)
  have hm : ty ∈ (List.range 309).filter fun t => Tryz.prog.rowNamed t [101, 114, 114, 111, 114] := List.mem_filter.2 ⟨List.mem_range.2 (by rw [← laidSize]; exact e3), e4⟩
  rw [laidOne] at hm
  obtain rfl := List.mem_singleton.1 hm
  have hh : typeHandle Tryz.prog 120 = .pointer (some ⟨1, 120, none⟩) := by kernel_rfl
  rw [hh] at e5
  simpa [Glb] using World.var?_cell laidEt e5 0
noncomputable def laidWorld (os : Os) : World :=
  let w0 := World.holding Tryz.prog os ⟨#[], #[], []⟩
  { w0 with heap := w0.heap.modify 0 fun
      | .cells _ t frozen => .cells #[.iface 217 (.agg #[.pointer (some ⟨1, 120, none⟩)])] t frozen
      | o => o }
theorem laidWorld_met (os : Os) (args : Array Value) : laidMetH Tryz.prog [("errors.errorType", Rows.laid_errors_errorType)] ((laidWorld os).forCall (fun _ _ => 0) ⟨#[], args, []⟩).memory :=
  laidMetH_of_parts (laidMet_nil _ _) (by kernel_rfl)
end Go.Proofs.YtmoilbakmlekbaaGreatDoor

